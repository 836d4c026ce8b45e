/- Contracts of the program's and the reference's functions, and the plain laws behind them: part 10 of 12. -/
import Derived.Test.YtccllgpaafgjaaaGreatS1
import Derived.Test.YtccllgpaafgjaaaGreatS2
import Derived.Test.YtccllgpaafgjaaaGreatS3
import Derived.Test.YtccllgpaafgjaaaGreatS4
import Derived.Test.YtccllgpaafgjaaaGreatS5
import Derived.Test.YtccllgpaafgjaaaGreatS6
import Derived.Test.YtccllgpaafgjaaaGreatS7
import Derived.Test.YtccllgpaafgjaaaGreatS8
import Derived.Test.YtccllgpaafgjaaaGreatS9
set_option linter.unusedVariables false
set_option linter.unusedSimpArgs false

namespace Go.Proofs.YtccllgpaafgjaaaGreat
open Go.RowKit Go.Proofs.YtccllgpaafgjaaaGreatW.PrintWords Go.Proofs.YtccllgpaafgjaaaGreatW.PrintLast
def OpIn (o : Op) : Prop := SmallO o ∧ -100 ≤ o.n ∧ o.n ≤ 100 ∧ 0 ≤ o.kind ∧ o.kind ≤ 100
def opCs (o : Op) : Array Value := #[.int .i64 o.kind, .string o.name, .string o.dest, .int .i64 o.n, .string o.text]
def z5 : Array Value := #[.int .i64 0, .string ⟨#[]⟩, .string ⟨#[]⟩, .int .i64 0, .string ⟨#[]⟩]
theorem OwnP.rd {w w' : World} {base : Nat} {v0 v1 : Value} {p : Pool} {bvs : List Value} (h : OwnP w base v0 v1 p bvs) {rb k : Nat} (hR : Rd w rb k) (hg : w.grownBy w' (some rb)) : OwnP w' base v0 v1 p bvs := by
 obtain ⟨A, c, bs, q, hB, _⟩ := hR.h
 exact h.grown hB (by decide) (by decide) (by decide) hg
structure FitSt (w W : World) (rb k base : Nat) (v0 v1 : Value) (p : Pool) (bvs : List Value) (ob : Nat) (cs : Array Value) : Prop where
  box : Blk W w.heap.size #[v0, v1] 42
  res : Blk W (w.heap.size + 1) z5 27
  op : Blk W ob cs 27
  rd : Rd W rb k
  own : OwnP W base v0 v1 p bvs
  g : w.grownBy W (some rb)
  l2 : w.heap.size + 1 < ob
  l3 : rb < w.heap.size
theorem FitSt.step {w W W' : World} {rb k k' base : Nat} {v0 v1 : Value} {p : Pool} {bvs : List Value} {ob : Nat} {cs : Array Value} (h : FitSt w W rb k base v0 v1 p bvs ob cs) (hR : Rd W' rb k') (hg : W.grownBy W' (some rb)) : FitSt w W' rb k' base v0 v1 p bvs ob cs :=
 ⟨h.box.grown hg (fun e => by injection e with e; have := h.l3; omega), h.res.grown hg (fun e => by injection e with e; have := h.l3; omega), h.op.grown hg (fun e => by injection e with e; have := h.l3; have := h.l2; omega), hR, h.own.rd h.rd hg, grown_tr h.g hg, h.l2, h.l3⟩
theorem FitSt.bel {w W W' : World} {rb k base : Nat} {v0 v1 : Value} {p : Pool} {bvs : List Value} {ob : Nat} {cs : Array Value} (h : FitSt w W rb k base v0 v1 p bvs ob cs) (hb : Bel W W') : FitSt w W' rb k base v0 v1 p bvs ob cs :=
 ⟨h.box.bel hb, h.res.bel hb, h.op.bel hb, h.rd.bel hb, h.own.bel hb, grown_tr h.g (grown_of_bel hb _), h.l2, h.l3⟩
theorem FitSt.set {w W : World} {rb k base : Nat} {v0 v1 : Value} {p : Pool} {bvs : List Value} {ob : Nat} {cs cs' : Array Value} (h : FitSt w W rb k base v0 v1 p bvs ob cs) (i : Nat) (u : Value) (e : cs.setIfInBounds i u = cs') : FitSt w (W.setCell ⟨ob, i, none⟩ u) rb k base v0 v1 p bvs ob cs' :=
 ⟨h.box.apart (by have := h.l2; omega) i u, h.res.apart (by have := h.l2; omega) i u, h.op.set i u e, h.rd.set (by have := h.l2; have := h.l3; omega) i u, h.own.far h.op (by decide) (by decide) (by decide) i u, grown_new h.g (by have := h.l2; omega) i u, h.l2, h.l3⟩
theorem FitSt.more {w W : World} {rb k k' base : Nat} {v0 v1 : Value} {p : Pool} {bvs : List Value} {ob : Nat} {cs : Array Value} (h : FitSt w W rb k base v0 v1 p bvs ob cs) (hk : k ≤ k') : FitSt w W rb k' base v0 v1 p bvs ob cs := ⟨h.box, h.res, h.op, h.rd.more hk, h.own, h.g, h.l2, h.l3⟩
end Go.Proofs.YtccllgpaafgjaaaGreat

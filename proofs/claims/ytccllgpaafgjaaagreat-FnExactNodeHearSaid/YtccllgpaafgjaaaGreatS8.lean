/- Contracts of the program's and the reference's functions, and the plain laws behind them: part 8 of 12. -/
import Derived.Test.YtccllgpaafgjaaaGreatS1
import Derived.Test.YtccllgpaafgjaaaGreatS2
import Derived.Test.YtccllgpaafgjaaaGreatS3
import Derived.Test.YtccllgpaafgjaaaGreatS5
import Derived.Test.YtccllgpaafgjaaaGreatS6
import Derived.Test.YtccllgpaafgjaaaGreatS7
set_option linter.unusedVariables false
set_option linter.unusedSimpArgs false

namespace Go.Proofs.YtccllgpaafgjaaaGreat
open Go.RowKit Go.Proofs.YtccllgpaafgjaaaGreatW.PrintWords Go.Proofs.YtccllgpaafgjaaaGreatW.PrintLast
theorem grown_new {w W : World} {r : Option Nat} (h : w.grownBy W r) {b : Nat} (hb : w.heap.size ≤ b) (i : Nat) (u : Value) : w.grownBy (W.setCell ⟨b, i, none⟩ u) r :=
 ⟨h.os, h.tape, h.output, by have := h.size; simpa using this, fun k hk hr => (heap_setCell_other W ⟨b, i, none⟩ k u (by show k ≠ b; omega)).trans (h.block k hk hr)⟩
theorem Rd.set {W : World} {rb k : Nat} (h : Rd W rb k) {b : Nat} (hb : rb < b) (i : Nat) (u : Value) : Rd (W.setCell ⟨b, i, none⟩ u) rb k := by
 obtain ⟨A, c, bs, p, h1, h2, h3, h4, h5, h6⟩ := h.h
 exact ⟨⟨A, c, bs, p, h1.apart (by omega) i u, byte_kept h2 (grown_setCell W b i u) (fun ad e => by have := h6 ad e; omega), h3, h4, h5, h6⟩⟩
theorem Rd.grown {W W' : World} {rb k : Nat} (h : Rd W rb k) {r : Option Nat} (hg : W.grownBy W' r) (hr : ∀ b, r = some b → rb < b) : Rd W' rb k := by
 obtain ⟨A, c, bs, p, h1, h2, h3, h4, h5, h6⟩ := h.h
 refine ⟨⟨A, c, bs, p, h1.grown hg (fun e => by have := hr rb e.symm; omega), ?_, h3, h4, h5, h6⟩⟩
 refine ⟨h2.1, h2.2.1, fun h0 => ?_⟩
 obtain ⟨ad, e, hh⟩ := h2.2.2 h0
 refine ⟨ad, e, fun j q hj => ?_⟩
 obtain ⟨c, g1, g2, g3⟩ := hh j q hj
 refine ⟨c, g1, g2, fun i u hu => World.grownBy.cell hg (g3 i u hu) ?_⟩
 rw [add_block]
 intro he
 have a1 := h6 ad e
 have a2 := hr _ he.symm
 omega
structure OpSt (w W : World) (rb rs ob k : Nat) (cs : Array Value) : Prop where
  res : Blk W rs #[.int .i64 0, .string ⟨#[]⟩, .string ⟨#[]⟩, .int .i64 0, .string ⟨#[]⟩] 27
  op : Blk W ob cs 27
  rd : Rd W rb k
  g : w.grownBy W (some rb)
  l1 : w.heap.size ≤ rs
  l2 : rs < ob
  l3 : rb < w.heap.size
theorem OpSt.step {w W W' : World} {rb rs ob k k' : Nat} {cs : Array Value} (h : OpSt w W rb rs ob k cs) (hR : Rd W' rb k') (hg : W.grownBy W' (some rb)) : OpSt w W' rb rs ob k' cs :=
 ⟨h.res.grown hg (fun e => by injection e with e; have := h.l1; have := h.l3; omega), h.op.grown hg (fun e => by injection e with e; have := h.l1; have := h.l2; have := h.l3; omega), hR, grown_tr h.g hg, h.l1, h.l2, h.l3⟩
theorem OpSt.bel {w W W' : World} {rb rs ob k : Nat} {cs : Array Value} (h : OpSt w W rb rs ob k cs) (hb : Bel W W') : OpSt w W' rb rs ob k cs :=
 ⟨h.res.bel hb, h.op.bel hb, h.rd.bel hb, grown_tr h.g (grown_of_bel hb _), h.l1, h.l2, h.l3⟩
theorem OpSt.set {w W : World} {rb rs ob k : Nat} {cs cs' : Array Value} (h : OpSt w W rb rs ob k cs) (i : Nat) (u : Value) (e : cs.setIfInBounds i u = cs') : OpSt w (W.setCell ⟨ob, i, none⟩ u) rb rs ob k cs' :=
 ⟨h.res.apart (by have := h.l2; omega) i u, h.op.set i u e, h.rd.set (by have := h.l1; have := h.l2; have := h.l3; omega) i u, grown_new h.g (by have := h.l1; have := h.l2; omega) i u, h.l1, h.l2, h.l3⟩
theorem OpSt.more {w W : World} {rb rs ob k k' : Nat} {cs : Array Value} (h : OpSt w W rb rs ob k cs) (hk : k ≤ k') : OpSt w W rb rs ob k' cs := ⟨h.res, h.op, h.rd.more hk, h.g, h.l1, h.l2, h.l3⟩
def OpV (v : Value) : Prop := ∃ o : Op, v = opV o ∧ SmallO o ∧ -100 ≤ o.n ∧ o.n ≤ 100 ∧ 0 ≤ o.kind ∧ o.kind ≤ 100
def nms : List ByteArray := [sOf [65], sOf [66], sOf [67], sOf [68]]
def bad : List ByteArray := [sOf [], sOf [69], sOf [65, 65]]
end Go.Proofs.YtccllgpaafgjaaaGreat

/- Contracts of the program's and the reference's functions, and the plain laws behind them: part 11 of 13. -/
import Derived.Test.YtljfoglilggkjaaGreatM1
import Derived.Test.YtljfoglilggkjaaGreatM2
import Derived.Test.YtljfoglilggkjaaGreatM3
import Derived.Test.YtljfoglilggkjaaGreatM4
import Derived.Test.YtljfoglilggkjaaGreatM5
import Derived.Test.YtljfoglilggkjaaGreatM6
import Derived.Test.YtljfoglilggkjaaGreatM7
import Derived.Test.YtljfoglilggkjaaGreatM8
import Derived.Test.YtljfoglilggkjaaGreatM9
import Derived.Test.YtljfoglilggkjaaGreatM10
set_option linter.unusedVariables false
set_option linter.unusedSimpArgs false
set_option maxHeartbeats 64000000
set_option maxRecDepth 10000
namespace Go.Proofs.YtljfoglilggkjaaGreat
open Go.RowKit Go.Proofs.YtljfoglilggkjaaGreatW.PrintWords Go.Proofs.YtljfoglilggkjaaGreatW.PrintLast
theorem grown_own {w W W' : World} {rb : Nat} {r : Option Nat} (h : w.grownBy W (some rb)) (hg : W.grownBy W' r) (hr : ∀ k, r = some k → w.heap.size ≤ k) : w.grownBy W' (some rb) :=
 ⟨hg.os.trans h.os, hg.tape.trans h.tape, hg.output.trans h.output, Nat.le_trans h.size hg.size, fun i hi hne => (hg.block i (Nat.lt_of_lt_of_le hi h.size) (fun e => by have := hr i e.symm; omega)).trans (h.block i hi hne)⟩
structure OpsSt (w W : World) (rb k : Nat) (v0 v1 : Value) (p : Pool) (bvs : List Value) (pb n : Nat) (v7 : Value) (xs : List Value) : Prop where
  res : Blk W w.heap.size #[.slice none 0 0, .slice none 0 0] 44
  pool : Blk W pb #[v0, v1] 44
  rd : Rd W rb k
  own : OwnP W w.heap.size v0 v1 p bvs
  row : W.ownsRow w.heap.size 27 5 v7 n xs
  g : w.grownBy W (some rb)
  l2 : w.heap.size < pb
  l3 : rb < w.heap.size
theorem row_rd {w w' : World} {base : Nat} {e : TypeId} {sz n : Nat} {v : Value} {xs : List Value} (h : w.ownsRow base e sz v n xs) (he : e ≠ 103) {rb k : Nat} (hR : Rd w rb k) (hg : w.grownBy w' (some rb)) : w'.ownsRow base e sz v n xs := by
 obtain ⟨A, c, bs, q, hB, _⟩ := hR.h
 exact World.ownsRow.kept h hg (.inr fun e => own_ne h hB he e.symm)
theorem OpsSt.step {w W W' : World} {rb k k' : Nat} {v0 v1 : Value} {p : Pool} {bvs : List Value} {pb n : Nat} {v7 : Value} {xs : List Value} (h : OpsSt w W rb k v0 v1 p bvs pb n v7 xs) (hR : Rd W' rb k') (hg : W.grownBy W' (some rb)) : OpsSt w W' rb k' v0 v1 p bvs pb n v7 xs :=
 ⟨h.res.grown hg (fun e => by injection e with e; have := h.l3; omega), h.pool.grown hg (fun e => by injection e with e; have := h.l3; have := h.l2; omega), hR, h.own.rd h.rd hg, row_rd h.row (by decide) h.rd hg, grown_tr h.g hg, h.l2, h.l3⟩
theorem OpsSt.bel {w W W' : World} {rb k : Nat} {v0 v1 : Value} {p : Pool} {bvs : List Value} {pb n : Nat} {v7 : Value} {xs : List Value} (h : OpsSt w W rb k v0 v1 p bvs pb n v7 xs) (hb : Bel W W') : OpsSt w W' rb k v0 v1 p bvs pb n v7 xs :=
 ⟨h.res.bel hb, h.pool.bel hb, h.rd.bel hb, h.own.bel hb, pw_own_below h.row hb, grown_tr h.g (grown_of_bel hb _), h.l2, h.l3⟩
theorem OpsSt.turn {w W : World} {rb k : Nat} {v0 v1 u0 u1 : Value} {p q : Pool} {bvs bvq : List Value} {pb n : Nat} {v7 : Value} {xs : List Value} (h : OpsSt w W rb k v0 v1 p bvs pb n v7 xs) (hq : OwnP W w.heap.size u0 u1 q bvq) : OpsSt w ((W.setCell ⟨pb, 0, none⟩ u0).setCell ⟨pb, 1, none⟩ u1) rb k u0 u1 q bvq pb n v7 xs := by
 have hp1 := h.pool.set 0 u0 (cs' := #[u0, v1]) rfl
 have hlt : rb < pb := Nat.lt_trans h.l3 h.l2
 exact ⟨(h.res.apart (by have := h.l2; omega) 0 u0).apart (by have := h.l2; omega) 1 u1, hp1.set 1 u1 rfl, (h.rd.set hlt 0 u0).set hlt 1 u1, (hq.far h.pool (by decide) (by decide) (by decide) 0 u0).far hp1 (by decide) (by decide) (by decide) 1 u1,
  own_setCell (p := ⟨pb, 1, none⟩) (own_setCell (p := ⟨pb, 0, none⟩) h.row (own_ne h.row h.pool (by decide)) u0) (own_ne (own_setCell (p := ⟨pb, 0, none⟩) h.row (own_ne h.row h.pool (by decide)) u0) hp1 (by decide)) u1, grown_new (grown_new h.g (Nat.le_of_lt h.l2) 0 u0) (Nat.le_of_lt h.l2) 1 u1, h.l2, h.l3⟩
theorem OpsSt.app {w W W' : World} {rb k : Nat} {v0 v1 : Value} {p : Pool} {bvs : List Value} {pb n m : Nat} {v7 v7' : Value} {xs ys : List Value} (h : OpsSt w W rb k v0 v1 p bvs pb n v7 xs) (hg : W.grownBy W' v7.ownBlock) (hr : W'.ownsRow w.heap.size 27 5 v7' m ys) : OpsSt w W' rb k v0 v1 p bvs pb m v7' ys := by
 have key : ∀ {e : TypeId} {size n : Nat} {v : Value} {xs : List Value}, W.ownsRow w.heap.size e size v n xs → e ≠ 27 → W'.ownsRow w.heap.size e size v n xs := fun h' hne => own_other_type h' h.row hne hg
 exact ⟨h.res.grown hg (own_blk_ne h.row h.res (by decide)), h.pool.grown hg (own_blk_ne h.row h.pool (by decide)), h.rd.grown hg (fun b e => by have := own_base h.row b e; have := h.l3; omega),
  ⟨key h.own.s (by decide), ⟨⟨h.own.v.row.len, key h.own.v.row.row (by decide)⟩, fun m x b hx hb => key (h.own.v.inner m x b hx hb) (by decide), h.own.v.apart⟩⟩, hr, grown_own h.g hg (own_base h.row), h.l2, h.l3⟩
theorem OpsSt.fx {w W : World} {rb k : Nat} {v0 v1 : Value} {p : Pool} {bvs : List Value} {pb n : Nat} {v7 : Value} {xs : List Value} {ob : Nat} {o : Op} (h : OpsSt w W rb k v0 v1 p bvs pb n v7 xs ∧ Blk W ob (opCs o) 27) :
  W.cell? ⟨pb, 0, none⟩ = some v0 ∧ W.cell? ⟨pb, 1, none⟩ = some v1 ∧ W.cell? ⟨ob, 0, none⟩ = some (.int .i64 o.kind) ∧ W.cell? ⟨ob, 1, none⟩ = some (.string o.name) ∧ W.cell? ⟨ob, 2, none⟩ = some (.string o.dest) ∧ W.cell? ⟨ob, 3, none⟩ = some (.int .i64 o.n) ∧ W.cell? ⟨ob, 4, none⟩ = some (.string o.text) :=
 ⟨by rw [h.1.pool.cell]; rfl, by rw [h.1.pool.cell]; rfl, by rw [h.2.cell]; rfl, by rw [h.2.cell]; rfl, by rw [h.2.cell]; rfl, by rw [h.2.cell]; rfl, by rw [h.2.cell]; rfl⟩
structure OpsO (w W : World) (rb k : Nat) (v0 v1 : Value) (p : Pool) (bvs : List Value) (pb n : Nat) (v7 : Value) (xs : List Value) (ob : Nat) (o : Op) : Prop where
  st : OpsSt w W rb k v0 v1 p bvs pb n v7 xs
  op : Blk W ob (opCs o) 27
theorem OpsO.bel {w W W' : World} {rb k : Nat} {v0 v1 : Value} {p : Pool} {bvs : List Value} {pb n : Nat} {v7 : Value} {xs : List Value} {ob : Nat} {o : Op} (h : OpsO w W rb k v0 v1 p bvs pb n v7 xs ob o) (hb : Bel W W') : OpsO w W' rb k v0 v1 p bvs pb n v7 xs ob o := ⟨h.st.bel hb, h.op.bel hb⟩
theorem OpsO.fx {w W : World} {rb k : Nat} {v0 v1 : Value} {p : Pool} {bvs : List Value} {pb n : Nat} {v7 : Value} {xs : List Value} {ob : Nat} {o : Op} (h : OpsO w W rb k v0 v1 p bvs pb n v7 xs ob o) :
  W.cell? ⟨pb, 0, none⟩ = some v0 ∧ W.cell? ⟨pb, 1, none⟩ = some v1 ∧ W.cell? ⟨ob, 0, none⟩ = some (.int .i64 o.kind) ∧ W.cell? ⟨ob, 1, none⟩ = some (.string o.name) ∧ W.cell? ⟨ob, 2, none⟩ = some (.string o.dest) ∧ W.cell? ⟨ob, 3, none⟩ = some (.int .i64 o.n) ∧ W.cell? ⟨ob, 4, none⟩ = some (.string o.text) := OpsSt.fx ⟨h.st, h.op⟩
def OpsOut (rb k d : Nat) (w : World) (e : Ending) (w' : World) : Prop := ∃ (v7 v0 v1 : Value) (p : Pool) (bvs : List Value), e = .returned (.tuple #[v7, .agg #[v0, v1]]) ∧ PoolP p ∧ OwnP w' w.heap.size v0 v1 p bvs ∧ Rd w' rb (k + d) ∧ w.grownBy w' (some rb)
def OpsOut2 (rb k d n : Nat) (w : World) (e : Ending) (w' : World) : Prop := ∃ (v7 v0 v1 : Value) (p : Pool) (bvs : List Value) (os : List Op), e = .returned (.tuple #[v7, .agg #[v0, v1]]) ∧ (PoolP p ∧ runP newP os = some p ∧ os.length ≤ n ∧ ∀ x ∈ os, SmallO x) ∧ OwnO w' w.heap.size v7 os ∧ OwnP w' w.heap.size v0 v1 p bvs ∧ Rd w' rb (k + d) ∧ w.grownBy w' (some rb)
structure OpsX (os : List Op) (m : Nat) (xs : List Value) (p : Pool) : Prop where
  len : os.length = m
  xs : xs = os.flatMap encO
  op : ∀ x ∈ os, SmallO x
  run : runP newP os = some p
theorem OpsX.snoc {os : List Op} {m : Nat} {xs : List Value} {p q : Pool} {o : Op} (h : OpsX os m xs p) (ho : SmallO o) (hok : opOk o = true) (hq : (opF p o).getD p = q) (hs : (opF p o).isSome = true) : OpsX (os ++ [o]) (m + 1) (xs ++ [.int .i64 o.kind, .string o.name, .string o.dest, .int .i64 o.n, .string o.text]) q := by
 obtain ⟨q', hq'⟩ := Option.isSome_iff_exists.1 hs
 rw [hq'] at hq
 obtain rfl : q' = q := hq
 refine ⟨by rw [List.length_append, h.len]; rfl, by rw [h.xs, List.flatMap_append]; rfl, fun x hx => ?_, ?_⟩
 ·rcases List.mem_append.1 hx with hx | hx
  ·exact h.op x hx
  ·rw [List.mem_singleton.1 hx]; exact ho
 ·rw [runP_snoc, h.run]
  show opR p o = _
  unfold opR
  rw [if_pos hok, hq']
end Go.Proofs.YtljfoglilggkjaaGreat
namespace Go.Proofs.YtljfoglilggkjaaGreat
open Go.RowKit Go.Proofs.YtljfoglilggkjaaGreatW.PrintWords Go.Proofs.YtljfoglilggkjaaGreatW.PrintLast
structure DrawnP (p : Pool) : Prop where
  small : SmallP p
  sl : p.slots.length = 8
  vl : p.vols.length ≤ 5
theorem PoolP.drawn {p : Pool} (h : PoolP p) : DrawnP p := ⟨h.small, h.s.len, by have := h.v.len; omega⟩
theorem DrawnP.setU {p : Pool} (h : DrawnP p) {m : Nat} {x : Slot} (hx : p.slots[m]? = some x) (u : Int) : DrawnP ⟨p.slots.set m ⟨x.text, u⟩, p.vols⟩ :=
 ⟨⟨⟨by rw [List.length_set]; exact h.small.slots.len, fun y hy => by
  rcases List.mem_or_eq_of_mem_set hy with hy | rfl
  ·exact h.small.slots.text y hy
  ·exact h.small.slots.text x (List.mem_of_getElem? hx)⟩, h.small.vols⟩, by show (p.slots.set m _).length = 8; rw [List.length_set]; exact h.sl, h.vl⟩
theorem DrawnP.setB {p : Pool} (h : DrawnP p) {m : Nat} {x : Vol} (hx : p.vols[m]? = some x) (b : Int) : DrawnP ⟨p.slots, p.vols.set m ⟨x.name, x.blocks.set 0 b⟩⟩ := by
 have hs := h.small.vols
 refine ⟨⟨h.small.slots, ⟨by rw [List.length_set]; exact hs.len, fun y hy => ?_, fun y hy => ?_⟩⟩, h.sl, by show (p.vols.set m _).length ≤ 5; rw [List.length_set]; exact h.vl⟩
 ·rcases List.mem_or_eq_of_mem_set hy with hy | rfl
  ·exact hs.blocks y hy
  ·show (x.blocks.set 0 b).length ≤ _
   rw [List.length_set]; exact hs.blocks x (List.mem_of_getElem? hx)
 ·rcases List.mem_or_eq_of_mem_set hy with hy | rfl
  ·exact hs.name y hy
  ·exact hs.name x (List.mem_of_getElem? hx)
def PoolOut (rb k d : Nat) (w : World) (e : Ending) (w' : World) : Prop := ∃ (v0 v1 : Value) (p : Pool) (bvs : List Value), e = .returned (.agg #[v0, v1]) ∧ DrawnP p ∧ OwnP w' w.heap.size v0 v1 p bvs ∧ Rd w' rb (k + d) ∧ w.grownBy w' (some rb)
theorem tail_append_step {ops : Array Oper} {o : Oper} {a : Act} {Q : Exit → Act → World → Prop} {Kc : Act → World → Prop} {W : World} {base : Nat} {v : Value} {os : List Op} (hw : Region.wanted o (yielded ops a.tmps) = true) (s x : Operand)
  (ho : o.op = .call { callee := .builtin .append, args := #[s, x], argTypes := #[23, 23] }) (hs : a.eval s = v) (y : Op) (ad : Addr) (c : Nat) (hx : a.eval x = .slice (some ad) 1 c)
  (hc : ∀ j u, (encO y)[j]? = some u → W.cell? (ad.add j) = some u) (h : OwnT W base v os) (hl : os.length ≤ 1048576) (hbase : base ≤ W.heap.size)
  (K : ∀ v1 w1, OwnT w1 base v1 (os ++ [y]) → W.grownBy w1 v.ownBlock → Kc (a.put o.dst v1) w1) :
  if Region.wanted o (yielded ops a.tmps) = true then Oper.wp Tryz.prog o a W Kc Q else Kc (a.put o.dst undef) W := by
 obtain ⟨v1, w1, hr1, h1, hg, hat⟩ := run_append_tail h o.type y ad c hc hl hbase
 rw [if_pos hw]
 unfold Oper.wp execOp
 simp only [ho, resolve, invoke, builtin, Sem.run_bind, Sem.run_pure, Result.andThen_ok, List.map_toArray, List.map_cons, List.map_nil, hs, hx, hr1]
 exact K v1 w1 h1 hg
theorem OwnT.rd {w w' : World} {base : Nat} {v : Value} {os : List Op} (h : OwnT w base v os) {rb k : Nat} (hR : Rd w rb k) (hg : w.grownBy w' (some rb)) : OwnT w' base v os := by
 obtain ⟨A, c, bs, q, hB, _⟩ := hR.h
 refine h.kept hg fun k hk e => ?_
 injection e with e
 subst e
 obtain ⟨_, _, cs', hc⟩ := h.base _ hk
 have h2 := hB.symm.trans hc
 injection h2 with h2
 injection h2 with _ h2
 exact absurd h2 (by decide)
theorem OwnT.lower {w : World} {b b' : Nat} {v : Value} {os : List Op} (h : OwnT w b v os) (hb : b' ≤ b) : OwnT w b' v os := by
 rcases h with ⟨rfl, A, rfl, ha⟩ | ⟨g, cap, pre, rfl, hpl, ho⟩
 ·exact .inl ⟨rfl, A, rfl, fun a e => ⟨Nat.le_trans hb (ha a e).1, (ha a e).2⟩⟩
 ·exact .inr ⟨g, cap, pre, rfl, hpl, own_lower ho hb⟩
theorem row_otherT {w w' : World} {b1 b2 : Nat} {e1 : TypeId} {s1 n1 : Nat} {v1 v2 : Value} {x1 : List Value} {os : List Op} (h1 : w.ownsRow b1 e1 s1 v1 n1 x1) (h2 : OwnT w b2 v2 os) (hne : e1 ≠ 27) (hg : w.grownBy w' v2.ownBlock) : w'.ownsRow b1 e1 s1 v1 n1 x1 := by
 refine World.ownsRow.kept h1 hg ?_
 cases hk : v1.ownBlock with
 | none => exact .inl rfl
 | some k =>
  refine .inr fun e => ?_
  obtain ⟨c1, hc1⟩ := own_type h1 hk
  obtain ⟨_, _, c2, hc2⟩ := h2.base k e.symm
  rw [hc1] at hc2
  injection hc2 with hc2
  injection hc2 with _ ht
  exact hne ht
theorem blk_otherT {w : World} {b2 : Nat} {v2 : Value} {os : List Op} (h2 : OwnT w b2 v2 os) {b : Nat} {cs : Array Value} {t : TypeId} (hB : Blk w b cs t) (hne : 27 ≠ t) : some b ≠ v2.ownBlock := fun e => by
 obtain ⟨_, _, c2, hc2⟩ := h2.base b e.symm
 have h3 := hB.symm.trans hc2
 injection h3 with h3
 injection h3 with _ h3
 exact hne h3.symm
theorem OwnP.otherT {w w' : World} {b2 : Nat} {v2 : Value} {os : List Op} {base : Nat} {v0 v1 : Value} {p : Pool} {bvs : List Value} (h : OwnP w base v0 v1 p bvs) (h2 : OwnT w b2 v2 os) (hg : w.grownBy w' v2.ownBlock) : OwnP w' base v0 v1 p bvs :=
 ⟨row_otherT h.s h2 (by decide) hg, ⟨⟨h.v.row.len, row_otherT h.v.row.row h2 (by decide) hg⟩, fun m x b hx hb => row_otherT (h.v.inner m x b hx hb) h2 (by decide) hg, h.v.apart⟩⟩
structure DrawnL (l : Log) (n : Nat) : Prop where
  small : SmallL l
  len : l.ops.length ≤ n
theorem DrawnL.safe {l : Log} {n : Nat} (h : DrawnL l n) (s : Int) : DrawnL ⟨l.base, l.ops, s⟩ n := ⟨⟨h.small.base, h.small.ops⟩, h.len⟩
theorem DrawnL.snoc {l : Log} {n : Nat} (h : DrawnL l n) (hn : n ≤ 1000) {o : Op} (ho : SmallO o) : DrawnL ⟨l.base, l.ops ++ [o], l.safe⟩ (n + 1) := by
 have hl := h.len
 have e : (l.ops ++ [o]).length = l.ops.length + 1 := by rw [List.length_append]; rfl
 refine ⟨⟨h.small.base, ⟨by show (l.ops ++ [o]).length ≤ _; omega, fun x hx => ?_⟩⟩, by show (l.ops ++ [o]).length ≤ _; omega⟩
 rcases List.mem_append.1 hx with hx | hx
 ·exact h.small.ops.op x hx
 ·rw [List.mem_singleton.1 hx]; exact ho
structure LgSt (w W : World) (rb k : Nat) (v0 v1 v2 : Value) (l : Log) (bvs : List Value) (lb : Nat) : Prop where
  res : Blk W w.heap.size #[.slice none 0 0, .slice none 0 0, .slice none 0 0, .int .i64 0] 50
  var : Blk W lb #[v0, v1, v2, .int .i64 l.safe] 50
  rd : Rd W rb k
  own : OwnP W w.heap.size v0 v1 l.base bvs
  ops : OwnT W w.heap.size v2 l.ops
  g : w.grownBy W (some rb)
  l2 : w.heap.size < lb
  l3 : rb < w.heap.size
section
variable {w W W' : World} {rb k k' lb : Nat} {v0 v1 v2 : Value} {l : Log} {bvs : List Value}
theorem LgSt.step (h : LgSt w W rb k v0 v1 v2 l bvs lb) (hR : Rd W' rb k') (hg : W.grownBy W' (some rb)) : LgSt w W' rb k' v0 v1 v2 l bvs lb :=
 ⟨h.res.grown hg (fun e => by injection e with e; have := h.l3; omega), h.var.grown hg (fun e => by injection e with e; have := h.l3; have := h.l2; omega), hR, h.own.rd h.rd hg, h.ops.rd h.rd hg, grown_tr h.g hg, h.l2, h.l3⟩
theorem LgSt.bel (h : LgSt w W rb k v0 v1 v2 l bvs lb) (hb : Bel W W') : LgSt w W' rb k v0 v1 v2 l bvs lb :=
 ⟨h.res.bel hb, h.var.bel hb, h.rd.bel hb, h.own.bel hb, h.ops.bel hb, grown_tr h.g (grown_of_bel hb _), h.l2, h.l3⟩
theorem LgSt.app (h : LgSt w W rb k v0 v1 v2 l bvs lb) (hg : W.grownBy W' v2.ownBlock) {u : Value} {os : List Op} (hu : OwnT W' w.heap.size u os) : LgSt w (W'.setCell ⟨lb, 2, none⟩ u) rb k v0 v1 u ⟨l.base, os, l.safe⟩ bvs lb := by
 have hv := h.var.grown hg (blk_otherT h.ops h.var (by decide))
 have hr := h.res.grown hg (blk_otherT h.ops h.res (by decide))
 have hlt := Nat.lt_trans h.l3 h.l2
 have hrd := h.rd.grown hg (fun b e => by have := (h.ops.base b e).1; have := h.l3; omega)
 exact ⟨hr.apart (by have := h.l2; omega) 2 _, hv.set 2 _ rfl, hrd.set hlt 2 _, (h.own.otherT h.ops hg).far hv (by decide) (by decide) (by decide) 2 _, hu.far hv (by decide) 2 _, grown_new (grown_own h.g hg (fun b e => (h.ops.base b e).1)) (Nat.le_of_lt h.l2) 2 _, h.l2, h.l3⟩
end
def LogOut (rb k d n : Nat) (w : World) (e : Ending) (w' : World) : Prop := ∃ (v0 v1 v2 : Value) (l : Log) (bvs : List Value), e = .returned (.agg #[v0, v1, v2, .int .i64 l.safe]) ∧ DrawnL l n ∧ OwnP w' w.heap.size v0 v1 l.base bvs ∧ OwnT w' w.heap.size v2 l.ops ∧ Rd w' rb (k + d) ∧ w.grownBy w' (some rb)
theorem LgSt.out {w W : World} {rb k k' lb n d : Nat} {v0 v1 v2 : Value} {l : Log} {bvs : List Value} (h : LgSt w W rb k v0 v1 v2 l bvs lb) (hl : DrawnL l n) (hd : k ≤ k' + d) : LogOut rb k' d n w (.returned (.agg #[v0, v1, v2, .int .i64 l.safe])) (wset4 W w.heap.size v0 v1 v2 (.int .i64 l.safe)) := by
 have hlt := h.l3
 refine ⟨v0, v1, v2, l, bvs, rfl, hl, h.own.far4 h.res _ _ _ _, h.ops.far4 h.res _ _ _ _, ((((h.rd.set hlt 0 _).set hlt 1 _).set hlt 2 _).set hlt 3 _).more hd, ?_⟩
 exact grown_new (grown_new (grown_new (grown_new h.g (Nat.le_refl _) 0 _) (Nat.le_refl _) 1 _) (Nat.le_refl _) 2 _) (Nat.le_refl _) 3 _
open Go.RowKit Go.Proofs.YtljfoglilggkjaaGreatW.PrintWords
end Go.Proofs.YtljfoglilggkjaaGreat
namespace Go.Proofs.YtljfoglilggkjaaGreat
open Go.RowKit Go.Proofs.YtljfoglilggkjaaGreatW.PrintWords
theorem lgInts_c {w : World} {A A' : Option Addr} {c c' : Nat} {xs : List Int} (hC : kInt.C w A xs.length xs) (hC' : kInt.C w A' xs.length xs) (hl : xs.length ≤ 1048576) :
  Calls Tryz.prog 88 #[.slice A xs.length c, .slice A' xs.length c'] w (Ret (.bool true) w) := by
 have H := Lib.hid hC
 have H' := Lib.hid hC'
 clear hC hC'
 go_enter Tryz.func88, Tryz.ntmps88
 go_wp2
 go_loopg [5] xs.length (fun g v W => ∃ k : Nat, g + k = xs.length ∧ v = .int .i64 k ∧ Bel w W)
 case atStart => exact ⟨0, rfl, rfl, Below.refl _ _⟩
 case round =>
  obtain ⟨k, hk, rfl, hW⟩ := hrel
  by_cases hlt : k < xs.length
  ·obtain ⟨x, hx⟩ := getQ hlt
   obtain ⟨ad, rfl, hc⟩ := at_int (Kd.C_below H.out hW) hx
   obtain ⟨ad2, rfl, hc2⟩ := at_int (Kd.C_below H'.out hW) hx
   have g0 := gb_cell hc
   have g1 := gb_cell hc2
   clear hx hc hc2
   go_wp2
   refine wp_region_gb (by kernel_rfl) (by kernel_rfl) ?_
   repeat (first | go_big_quiet_skip | (go_big_quiet_want; go_big_quiet_op; go_big_quiet_on))
   refine wpQuiet_nil ?_
   rintro _ ⟨⟨w4, hb4⟩, rfl⟩
   go_wp2
   go_roundg (xs.length - (k + 1))
   case measure => omega
   case rel => exact ⟨k + 1, by omega, by go_num, hW.tr hb4⟩
  ·go_wp2
   go_ret
   exact ⟨rfl, hW⟩
theorem lgVol_c {w : World} {A A' : Option Addr} {c c' : Nat} {v : Vol} (hC : kInt.C w A v.blocks.length v.blocks) (hC' : kInt.C w A' v.blocks.length v.blocks) (hl : v.blocks.length ≤ 1048576) :
  Calls Tryz.prog 54 #[.agg #[.string v.name, .slice A v.blocks.length c], .agg #[.string v.name, .slice A' v.blocks.length c']] w (Ret (.bool true) w) := by
 have H := Lib.hid hC
 have H' := Lib.hid hC'
 clear hC hC'
 have h1 : (v.name.toList == v.name.toList) = true := by simp
 go_enter Tryz.func54, Tryz.ntmps54
 go_wp2_with fail
 refine (lgInts_c (Kd.C_alloc (Kd.C_alloc H.out _) _) (Kd.C_alloc (Kd.C_alloc H'.out _) _) hl).mono ?_
 rintro e w1 ⟨rfl, hb1⟩
 go_wp2
 go_ret
 exact ⟨rfl, (bel_alloc (bel_alloc (Below.refl _ _) _) _).tr hb1⟩
theorem lgSlots_c {w : World} {A A' : Option Addr} {c c' : Nat} {xs : List Slot} (hC : kSlot.C w A xs.length xs) (hC' : kSlot.C w A' xs.length xs) (hl : xs.length ≤ 1048576) :
  Calls Tryz.prog 53 #[.slice A xs.length c, .slice A' xs.length c'] w (Ret (.bool true) w) := by
 have H := Lib.hid hC
 have H' := Lib.hid hC'
 clear hC hC'
 go_enter Tryz.func53, Tryz.ntmps53
 go_wp2
 go_loopg [5] xs.length (fun g v W => ∃ k : Nat, g + k = xs.length ∧ v = .int .i64 k ∧ Bel w W)
 case atStart => exact ⟨0, rfl, rfl, Below.refl _ _⟩
 case round =>
  obtain ⟨k, hk, rfl, hW⟩ := hrel
  by_cases hlt : k < xs.length
  ·obtain ⟨x, hx⟩ := getQ hlt
   obtain ⟨ad, rfl, hc, hd⟩ := at_slot (Kd.C_below H.out hW) hx
   obtain ⟨ad2, rfl, hc2, hd2⟩ := at_slot (Kd.C_below H'.out hW) hx
   have h1 : (x.text.toList == x.text.toList) = true := by simp
   have g0 := gb_cell hc
   have g1 := gb_cell hc2
   have g2 := gb_cell hd
   have g3 := gb_cell hd2
   clear hx hc hc2 hd hd2
   go_wp2
   refine wp_region_gb (by kernel_rfl) (by kernel_rfl) ?_
   repeat (first | go_big_quiet_skip | (go_big_quiet_want; go_big_quiet_op; go_big_quiet_on))
   refine wpQuiet_nil ?_
   rintro _ ⟨⟨w4, hb4⟩, rfl⟩
   go_wp2
   go_roundg (xs.length - (k + 1))
   case measure => omega
   case rel => exact ⟨k + 1, by omega, by go_num, hW.tr hb4⟩
  ·go_wp2
   go_ret
   exact ⟨rfl, hW⟩
theorem lgPool_c {w : World} {A0 A1 B0 B1 : Option Addr} {c0 c1 d0 d1 : Nat} {p : Pool} (h : PoolIn w A0 A1 c0 c1 p) (h' : PoolIn w B0 B1 d0 d1 p) (hs : SmallP p) :
  Calls Tryz.prog 24 #[.agg #[.slice A0 p.slots.length c0, .slice A1 p.vols.length c1], .agg #[.slice B0 p.slots.length d0, .slice B1 p.vols.length d1]] w (Ret (.bool true) w) := by
 have H := Lib.hid h
 have H' := Lib.hid h'
 have HS := Lib.hid hs
 have hl := hs.vols.len
 clear h h' hs
 go_enter Tryz.func24, Tryz.ntmps24
 go_wp2_with fail
 refine (lgSlots_c ((H.out.alloc _).alloc _).s ((H'.out.alloc _).alloc _).s HS.out.slots.len).mono ?_
 rintro e w1 ⟨rfl, hb1⟩
 have hB : Blk ((w.alloc (.cells #[.slice A0 p.slots.length c0, .slice A1 p.vols.length c1] 44)).alloc (.cells #[.slice B0 p.slots.length d0, .slice B1 p.vols.length d1] 44)) w.heap.size #[.slice A0 p.slots.length c0, .slice A1 p.vols.length c1] 44 := (Blk.new _ _ _).alloc _
 have hB' := Blk.new2 w (.cells #[.slice A0 p.slots.length c0, .slice A1 p.vols.length c1] 44) #[.slice B0 p.slots.length d0, .slice B1 p.vols.length d1] 44
 have hw1 := (bel_alloc (bel_alloc (Below.refl _ w) (.cells #[.slice A0 p.slots.length c0, .slice A1 p.vols.length c1] 44)) (.cells #[.slice B0 p.slots.length d0, .slice B1 p.vols.length d1] 44) : Bel w _).tr hb1
 have HB := Lib.hid (hB.bel hb1)
 have HB' := Lib.hid (hB'.bel hb1)
 have HW1 := Lib.hid hw1
 have q1 := HB.out.cell 1
 have q2 := HB'.out.cell 1
 simp at q1 q2
 clear hB hB' hb1 hw1
 go_wp2
 clear q1 q2
 go_loopg [5] p.vols.length (fun g v W => ∃ k : Nat, g + k = p.vols.length ∧ v = .int .i64 k ∧ Bel w1 W)
 case atStart => exact ⟨0, rfl, rfl, Below.refl _ _⟩
 case round =>
  obtain ⟨k, hk, rfl, hW⟩ := hrel
  have q1 := (HB.out.bel hW).cell 1
  have q2 := (HB'.out.bel hW).cell 1
  simp at q1 q2
  by_cases hlt : k < p.vols.length
  ·obtain ⟨x, hx⟩ := getQ hlt
   obtain ⟨ad, A3, n1, rfl, hc, hd, hn1, hC1⟩ := at_vol (H.out.bel (HW1.out.tr hW)).v hx
   obtain ⟨ad2, A4, n2, rfl, hc2, hd2, hn2, hC2⟩ := at_vol (H'.out.bel (HW1.out.tr hW)).v hx
   have hx1 : x.blocks.length ≤ 1048576 := HS.out.vols.blocks x (List.mem_of_getElem? hx)
   have HE : Hid (∀ p : GB wr, Calls Tryz.prog 54 #[.agg #[.string x.name, .slice A3 x.blocks.length n1], .agg #[.string x.name, .slice A4 x.blocks.length n2]] p.W (Ret (.bool true) p.W)) := fun p => lgVol_c (Kd.C_below hC1 p.h) (Kd.C_below hC2 p.h) hx1
   have g0 := gb_cell hc
   have g1 := gb_cell hc2
   have g2 := gb_cell hd
   have g3 := gb_cell hd2
   have g4 := gb_cell q1
   have g5 := gb_cell q2
   clear hx hc hc2 hd hd2 hC1 hC2
   go_wp2
   clear q1 q2
   refine wp_region_gb (by kernel_rfl) (by kernel_rfl) ?_
   repeat (first | go_big_quiet_skip | (go_big_quiet_want; go_big_quiet_op; first | go_big_quiet_on | (apply Exists.intro; refine ⟨fun _ => ?_, ?_⟩; (go_at_call 54; exact gb_call (HE.out _)); go_big_quiet_on)))
   refine wpQuiet_nil ?_
   rintro _ ⟨⟨w4, hb4⟩, rfl⟩
   go_wp2
   go_roundg (p.vols.length - (k + 1))
   case measure => omega
   case rel => exact ⟨k + 1, by omega, by go_num, hW.tr hb4⟩
  ·go_wp2
   go_ret
   exact ⟨rfl, HW1.out.tr hW⟩
def blksOf (vs : List Vol) (t : ByteArray) : List Int := if volIdx vs t < 0 then [] else (volAt vs (volIdx vs t)).blocks
theorem lgBlks_len (vs : List Vol) (t : ByteArray) : lgBlks vs t = (blksOf vs t).length := by unfold lgBlks blksOf; split <;> rfl
def pc (s : List Slot) (pl : Int) : ByteArray := if 0 < pl then slotText s pl else e0
def pieces (p : Pool) (t : ByteArray) : List ByteArray := (blksOf p.vols t).map (pc p.slots)
def Keeps (s t : List Slot) : Prop := ∀ (m : Nat) (y : Slot), t[m]? = some y → ∃ x, s[m]? = some x ∧ (y.text = x.text ∨ y.uses = 0)
theorem Keeps.refl (s : List Slot) : Keeps s s := fun m y hy => ⟨y, hy, .inl rfl⟩
def freeP (p : Pool) (name : ByteArray) (b : Int) (i : Nat) (v : Vol) : Pool := ⟨backS p name b, p.vols.set i ⟨name, v.blocks.set b.toNat 0⟩⟩
def RdEq (a : Pool) (x : ByteArray) (b : Pool) (y : ByteArray) : Prop := lgBlks a.vols x = lgBlks b.vols y ∧ ∀ i : Nat, (i : Int) < lgBlks a.vols x → readOk a x i = true ∧ readOk b y i = true ∧ readV a x i = readV b y i
def OthEq (a b : Pool) (n : ByteArray) : Prop := ∀ x ∈ a.vols, x.name ≠ n → RdEq a x.name b x.name
theorem PoolP.free {p : Pool} (h : PoolP p) : storeFree p.slots = freeN p.slots := storeFree_yes (storeOk_iff.2 h.s)
theorem hasBlk_iff {vs : List Vol} (h : VolsP vs) {t : ByteArray} {b : Int} : 0 ≤ hasBlk vs t b ↔ 0 ≤ b ∧ b < (blksOf vs t).length := by
 unfold hasBlk blksOf
 by_cases hv : volIdx vs t < 0
 ·rw [if_pos hv, if_pos hv]; simp
 ·rw [if_neg hv, if_neg hv]
  cases hr : inR b 0 ((volAt vs (volIdx vs t)).blocks.length - 1)
  ·rw [inR_no] at hr
   simp only [Bool.false_eq_true, if_false]
   omega
  ·rw [inR_iff] at hr
   rw [if_pos rfl]
   omega
theorem PoolP.wr {p : Pool} (h : PoolP p) {t : ByteArray} {b : Int} (h0 : 0 ≤ b) (h1 : b < lgBlks p.vols t) : ∃ i v x, Wr p t b i v x :=
 hasBlk_wr ((hasBlk_iff h.v).2 ⟨h0, by rw [lgBlks_len] at h1; exact h1⟩)
def there (s : List Slot) (t : ByteArray) : Bool := decide (0 ≤ idx (fun o : Slot => o.text.toList == t.toList) s)
end Go.Proofs.YtljfoglilggkjaaGreat
namespace Go.Proofs.YtljfoglilggkjaaGreat
open Go.RowKit Go.Proofs.YtljfoglilggkjaaGreatW.PrintWords
def spB : ByteArray := ⟨#[32]⟩
def dashB : ByteArray := ⟨#[45]⟩
def nlB : ByteArray := ⟨#[10]⟩
def blkT (s : List Slot) (pl : Int) : ByteArray := if 0 < pl ∧ 0 < (s.getD (pl - 1).toNat Slot.z).uses then slotText s pl else dashB
def volRun (s : List Slot) (a : ByteArray) (bs : List Int) : ByteArray := bs.foldl (fun a pl => a ++ (spB ++ blkT s pl)) a
def volT (v : Vol) (s : List Slot) : ByteArray := if volOk v && storeOk s then volRun s v.name v.blocks else e0
def poolRun (s : List Slot) (a : ByteArray) (vs : List Vol) : ByteArray := vs.foldl (fun a v => a ++ (volT v s ++ nlB)) a
def poolT (p : Pool) : ByteArray := if poolOk p then poolRun p.slots e0 p.vols else e0
def tagT (t : ByteArray) (ps : List ByteArray) : ByteArray := ps.foldl (fun a x => a ++ (spB ++ if x = e0 then dashB else x)) t
def tags (p : Pool) : List (ByteArray × List ByteArray) := p.vols.map fun v => (v.name, v.blocks.map (pc p.slots))
def opPieces (o : Op) (f : ByteArray → List ByteArray) (t : ByteArray) : List ByteArray :=
 if o.kind = 1 then (if t = o.name then List.replicate o.n.toNat e0 else f t)
 else if o.kind = 2 then (if t = o.name then (f o.name).set o.n.toNat o.text else f t)
 else if o.kind = 3 then (if t = o.dest then f o.name else f t)
 else (if t = o.name then [] else f t)
def kstep (seen : List ByteArray) (t : ByteArray) : List ByteArray := if (t.toList == []) || seen.any (fun o => o.toList == t.toList) then seen else seen ++ [t]
def usedT : List Slot → List ByteArray
 | [] => []
 | x :: s => if x.uses = 0 then usedT s else x.text :: usedT s
def allT (p : Pool) (vs : List Vol) : List ByteArray := vs.flatMap fun v => pieces p v.name
end Go.Proofs.YtljfoglilggkjaaGreat
namespace Go.Proofs.YtljfoglilggkjaaGreat
open Go.RowKit Go.Proofs.YtljfoglilggkjaaGreatW.PrintWords
open Go.RowKit Go.Proofs.YtljfoglilggkjaaGreatW.PrintWords Go.Proofs.YtljfoglilggkjaaGreatW.PrintLast
def NameV (v : Value) : Prop := ∃ s : ByteArray, v = .string s ∧ s.size ≤ 1048576
structure NmSt (w W : World) (rb k base : Nat) (v0 v1 : Value) (p : Pool) (bvs : List Value) : Prop where
  box : Blk W w.heap.size #[v0, v1] 44
  rd : Rd W rb k
  own : OwnP W base v0 v1 p bvs
  g : w.grownBy W (some rb)
  l3 : rb < w.heap.size
theorem NmSt.step {w W W' : World} {rb k k' base : Nat} {v0 v1 : Value} {p : Pool} {bvs : List Value} (h : NmSt w W rb k base v0 v1 p bvs) (hR : Rd W' rb k') (hg : W.grownBy W' (some rb)) : NmSt w W' rb k' base v0 v1 p bvs :=
 ⟨h.box.grown hg (fun e => by injection e with e; have := h.l3; omega), hR, h.own.rd h.rd hg, grown_tr h.g hg, h.l3⟩
theorem NmSt.bel {w W W' : World} {rb k base : Nat} {v0 v1 : Value} {p : Pool} {bvs : List Value} (h : NmSt w W rb k base v0 v1 p bvs) (hb : Bel W W') : NmSt w W' rb k base v0 v1 p bvs :=
 ⟨h.box.bel hb, h.rd.bel hb, h.own.bel hb, grown_tr h.g (grown_of_bel hb _), h.l3⟩
def five : List ByteArray := [sOf [65], sOf [66], sOf [67], sOf [68], sOf [69]]
theorem bel_of_grown {w w1 w2 : World} (h : Bel w w1) {rb : Nat} (hg : w1.grownBy w2 (some rb)) (hr : w.heap.size ≤ rb) : Bel w w2 := h.grown hg h.size (fun k e => by injection e with e; omega)
def DrewT (w : World) (e : Ending) (w' : World) : Prop := ∃ (v0 v1 : Value) (p : Pool) (bvs : List Value), e = .returned (.agg #[v0, v1]) ∧ DrawnP p ∧ OwnP w' w.heap.size v0 v1 p bvs ∧ Bel w w'
structure DrSt (w W : World) (rb k : Nat) (v0 v1 : Value) (p : Pool) (bvs : List Value) (pb : Nat) : Prop where
  res : Blk W w.heap.size #[.slice none 0 0, .slice none 0 0] 44
  pool : Blk W pb #[v0, v1] 44
  rd : Rd W rb k
  own : OwnP W w.heap.size v0 v1 p bvs
  bel : Bel w W
  l1 : w.heap.size < rb
  l2 : rb < pb
theorem DrSt.step {w W W' : World} {rb k k' : Nat} {v0 v1 : Value} {p : Pool} {bvs : List Value} {pb : Nat} (h : DrSt w W rb k v0 v1 p bvs pb) (hR : Rd W' rb k') (hg : W.grownBy W' (some rb)) : DrSt w W' rb k' v0 v1 p bvs pb :=
 ⟨h.res.grown hg (fun e => by injection e with e; have := h.l1; omega), h.pool.grown hg (fun e => by injection e with e; have := h.l2; omega), hR, h.own.rd h.rd hg, bel_of_grown h.bel hg (Nat.le_of_lt h.l1), h.l1, h.l2⟩
theorem DrSt.below {w W W' : World} {rb k : Nat} {v0 v1 : Value} {p : Pool} {bvs : List Value} {pb : Nat} (h : DrSt w W rb k v0 v1 p bvs pb) (hb : Bel W W') : DrSt w W' rb k v0 v1 p bvs pb :=
 ⟨h.res.bel hb, h.pool.bel hb, h.rd.bel hb, h.own.bel hb, h.bel.tr hb, h.l1, h.l2⟩
def DrewG (w : World) (e : Ending) (w' : World) : Prop := ∃ (v0 v1 : Value) (p : Pool) (bvs : List Value) (s : ByteArray), e = .returned (.tuple #[.agg #[v0, v1], .string s]) ∧ s.size ≤ 1048576 ∧ DrawnP p ∧ OwnP w' w.heap.size v0 v1 p bvs ∧ Bel w w'
def eight : List ByteArray := [sOf [65], sOf [66], sOf [67], sOf [68], sOf [68], sOf [67], sOf [69], sOf []]
def DrewM (w : World) (e : Ending) (w' : World) : Prop := ∃ (v0 v1 : Value) (p : Pool) (bvs : List Value) (s : ByteArray) (n : Int), e = .returned (.tuple #[.agg #[v0, v1], .string s, .int .i64 n]) ∧ s ∈ eight ∧ 1 ≤ n ∧ n ≤ 100 ∧ DrawnP p ∧ OwnP w' w.heap.size v0 v1 p bvs ∧ Bel w w'
def DrewC (w : World) (e : Ending) (w' : World) : Prop := ∃ (v0 v1 : Value) (p : Pool) (bvs : List Value) (s d : ByteArray), e = .returned (.tuple #[.agg #[v0, v1], .string s, .string d]) ∧ s.size ≤ 1048576 ∧ d ∈ five ∧ DrawnP p ∧ OwnP w' w.heap.size v0 v1 p bvs ∧ Bel w w'
open Go.RowKit Go.Proofs.YtljfoglilggkjaaGreatW.PrintWords
def four : List ByteArray := [sOf [97], sOf [98, 99, 100], sOf [], sOf [100, 100]]
def fourB : List ByteArray := [sOf [97], sOf [98, 98], sOf [], sOf [99, 100]]
open Go.RowKit Go.Proofs.YtljfoglilggkjaaGreatW.PrintWords Go.Proofs.YtljfoglilggkjaaGreatW.PrintLast
def DrewW (w : World) (e : Ending) (w' : World) : Prop := ∃ (v0 v1 : Value) (p : Pool) (bvs : List Value) (s : ByteArray) (n : Int) (tx : ByteArray), e = .returned (.tuple #[.agg #[v0, v1], .string s, .int .i64 n, .string tx]) ∧ s.size ≤ 1048576 ∧ -100 ≤ n ∧ n ≤ 100 ∧ tx.size ≤ 1048576 ∧ DrawnP p ∧ OwnP w' w.heap.size v0 v1 p bvs ∧ Bel w w'
open Go.RowKit Go.Proofs.YtljfoglilggkjaaGreatW.PrintWords
def NewP (w : World) (q : Pool) (ok : Bool) (e : Ending) (w' : World) : Prop := ∃ A0 A1 c0 c1, e = .returned (.tuple #[.agg #[.slice A0 q.slots.length c0, .slice A1 q.vols.length c1], .bool ok]) ∧ PoolIn w' A0 A1 c0 c1 q ∧ Bel w w'
theorem MadePB.new {w : World} {q : Pool} {ok : Bool} {e : Ending} {w' : World} (h : MadePB w q ok e w') : NewP w q ok e w' := by
 obtain ⟨v0, v1, bvs, rfl, ho, hb⟩ := h
 obtain ⟨A0, A1, c0, c1, rfl, rfl, hi⟩ := ho.reads
 exact ⟨A0, A1, c0, c1, rfl, hi, hb⟩
structure PVar (w : World) (b : Nat) (A0 A1 : Option Addr) (c0 c1 : Nat) (q : Pool) : Prop where
  blk : Blk w b #[.slice A0 q.slots.length c0, .slice A1 q.vols.length c1] 44
  inn : PoolIn w A0 A1 c0 c1 q
theorem PVar.bel {w w' : World} {b : Nat} {A0 A1 : Option Addr} {c0 c1 : Nat} {q : Pool} (h : PVar w b A0 A1 c0 c1 q) (hb : Bel w w') : PVar w' b A0 A1 c0 c1 q := ⟨h.blk.bel hb, h.inn.bel hb⟩
theorem PVar.new {w : World} {A0 A1 : Option Addr} {c0 c1 : Nat} {q : Pool} (h : PoolIn w A0 A1 c0 c1 q) : PVar (w.alloc (.cells #[.slice A0 q.slots.length c0, .slice A1 q.vols.length c1] 44)) w.heap.size A0 A1 c0 c1 q := ⟨Blk.new _ _ _, h.alloc _⟩
theorem PVar.c0 {w : World} {b : Nat} {A0 A1 : Option Addr} {c0 c1 : Nat} {q : Pool} (h : PVar w b A0 A1 c0 c1 q) : w.cell? ⟨b, 0, none⟩ = some (.slice A0 q.slots.length c0) := by have := h.blk.cell 0; simpa using this
theorem PVar.c1 {w : World} {b : Nat} {A0 A1 : Option Addr} {c0 c1 : Nat} {q : Pool} (h : PVar w b A0 A1 c0 c1 q) : w.cell? ⟨b, 1, none⟩ = some (.slice A1 q.vols.length c1) := by have := h.blk.cell 1; simpa using this
theorem PVar.lt {w : World} {b : Nat} {A0 A1 : Option Addr} {c0 c1 : Nat} {q : Pool} (h : PVar w b A0 A1 c0 c1 q) : b < w.heap.size := h.blk.lt
section
variable {w : World} {A0 A1 : Option Addr} {c0 c1 : Nat} {p q : Pool} {ok : Bool}
abbrev poolV (A0 A1 : Option Addr) (c0 c1 : Nat) (p : Pool) : Value := .agg #[.slice A0 p.slots.length c0, .slice A1 p.vols.length c1]
end
def DrewG' (w : World) (e : Ending) (w' : World) : Prop := ∃ A0 A1 c0 c1, ∃ (p : Pool) (s : ByteArray), e = .returned (.tuple #[.agg #[.slice A0 p.slots.length c0, .slice A1 p.vols.length c1], .string s]) ∧ s.size ≤ 1048576 ∧ DrawnP p ∧ PoolIn w' A0 A1 c0 c1 p ∧ Bel w w'
theorem DrewG.new {w : World} {e : Ending} {w' : World} (h : DrewG w e w') : DrewG' w e w' := by
 obtain ⟨v0, v1, p, bvs, s, rfl, hs, hp, ho, hb⟩ := h
 obtain ⟨A0, A1, c0, c1, rfl, rfl, hi⟩ := ho.reads
 exact ⟨A0, A1, c0, c1, p, s, rfl, hs, hp, hi, hb⟩
def DrewT' (w : World) (e : Ending) (w' : World) : Prop := ∃ A0 A1 c0 c1, ∃ (p : Pool), e = .returned (.agg #[.slice A0 p.slots.length c0, .slice A1 p.vols.length c1]) ∧ DrawnP p ∧ PoolIn w' A0 A1 c0 c1 p ∧ Bel w w'
theorem DrewT.new {w : World} {e : Ending} {w' : World} (h : DrewT w e w') : DrewT' w e w' := by
 obtain ⟨v0, v1, p, bvs, rfl, hp, ho, hb⟩ := h
 obtain ⟨A0, A1, c0, c1, rfl, rfl, hi⟩ := ho.reads
 exact ⟨A0, A1, c0, c1, p, rfl, hp, hi, hb⟩
def DrewM' (w : World) (e : Ending) (w' : World) : Prop := ∃ A0 A1 c0 c1, ∃ (p : Pool) (s : ByteArray) (n : Int), e = .returned (.tuple #[.agg #[.slice A0 p.slots.length c0, .slice A1 p.vols.length c1], .string s, .int .i64 n]) ∧ s ∈ eight ∧ 1 ≤ n ∧ n ≤ 100 ∧ DrawnP p ∧ PoolIn w' A0 A1 c0 c1 p ∧ Bel w w'
theorem DrewM.new {w : World} {e : Ending} {w' : World} (h : DrewM w e w') : DrewM' w e w' := by
 obtain ⟨v0, v1, p, bvs, s, n, rfl, hs, h1, h2, hp, ho, hb⟩ := h
 obtain ⟨A0, A1, c0, c1, rfl, rfl, hi⟩ := ho.reads
 exact ⟨A0, A1, c0, c1, p, s, n, rfl, hs, h1, h2, hp, hi, hb⟩
def DrewC' (w : World) (e : Ending) (w' : World) : Prop := ∃ A0 A1 c0 c1, ∃ (p : Pool) (s d : ByteArray), e = .returned (.tuple #[.agg #[.slice A0 p.slots.length c0, .slice A1 p.vols.length c1], .string s, .string d]) ∧ s.size ≤ 1048576 ∧ d ∈ five ∧ DrawnP p ∧ PoolIn w' A0 A1 c0 c1 p ∧ Bel w w'
theorem DrewC.new {w : World} {e : Ending} {w' : World} (h : DrewC w e w') : DrewC' w e w' := by
 obtain ⟨v0, v1, p, bvs, s, d, rfl, hs, hd, hp, ho, hb⟩ := h
 obtain ⟨A0, A1, c0, c1, rfl, rfl, hi⟩ := ho.reads
 exact ⟨A0, A1, c0, c1, p, s, d, rfl, hs, hd, hp, hi, hb⟩
def DrewW' (w : World) (e : Ending) (w' : World) : Prop := ∃ A0 A1 c0 c1, ∃ (p : Pool) (s : ByteArray) (n : Int) (tx : ByteArray), e = .returned (.tuple #[.agg #[.slice A0 p.slots.length c0, .slice A1 p.vols.length c1], .string s, .int .i64 n, .string tx]) ∧ s.size ≤ 1048576 ∧ -100 ≤ n ∧ n ≤ 100 ∧ tx.size ≤ 1048576 ∧ DrawnP p ∧ PoolIn w' A0 A1 c0 c1 p ∧ Bel w w'
theorem DrewW.new {w : World} {e : Ending} {w' : World} (h : DrewW w e w') : DrewW' w e w' := by
 obtain ⟨v0, v1, p, bvs, s, n, tx, rfl, hs, h1, h2, ht, hp, ho, hb⟩ := h
 obtain ⟨A0, A1, c0, c1, rfl, rfl, hi⟩ := ho.reads
 exact ⟨A0, A1, c0, c1, p, s, n, tx, rfl, hs, h1, h2, ht, hp, hi, hb⟩
def findB (s : List Slot) (t : ByteArray) : Bool := storeOk s && (tOk t && !t.toList.isEmpty)
def FoundB (s : List Slot) (t : ByteArray) (w : World) (e : Ending) (w' : World) : Prop := ∃ n : Int, e = .returned (.tuple #[.int .i64 n, .bool (findB s t && there s t)]) ∧ Bel w w'
def SeenS (W : World) (base : Nat) (v : Value) (seen : List ByteArray) : Prop := W.ownsRow base 9 1 v seen.length (seen.map Value.string)
theorem SeenS.bel {w w' : World} {base : Nat} {v : Value} {s : List ByteArray} (h : SeenS w base v s) (hb : Bel w w') : SeenS w' base v s := pw_own_below h hb
theorem SeenS.reads {w : World} {base : Nat} {v : Value} {s : List ByteArray} (h : SeenS w base v s) : ∃ A c, v = .slice A s.length c ∧ s.length ≤ c ∧ Kd.string.C w A s.length s := by
 have hr : Reps (Kd.string.K w) 1 s (s.map Value.string) := by
  refine ⟨by simp, fun j p hp => ?_⟩
  show _ = [Value.string p]
  rw [Nat.mul_one]
  apply List.ext_getElem?
  intro k
  rw [List.getElem?_take]
  cases k with
  | zero => simp [hp]
  | succ k => simp
 obtain ⟨A, c, e, hr⟩ := own_reads_row h hr rfl
 obtain ⟨A', c', e', hc⟩ := own_cap h
 rw [e] at e'
 injection e' with _ _ e3
 exact ⟨A, c, e, e3 ▸ hc, hr⟩
def seenB (t : ByteArray) (seen : List ByteArray) (m : Nat) : Bool := (t.toList == []) || (seen.take m).any fun o => o.toList == t.toList
open Go.RowKit Go.Proofs.YtljfoglilggkjaaGreatW.PrintWords Go.Proofs.YtljfoglilggkjaaGreatW.PrintLast
theorem blk_op5 {w : World} {b : Nat} {o : Op} (hB : Blk w b (oC o) 27) : ∀ j u, (encO o)[j]? = some u → w.cell? ((⟨b, 0, none⟩ : Addr).add j) = some u := by
 intro j u hj
 rw [Addr.add_lit, Nat.zero_add, hB.cell]
 simpa [encO] using hj
section
variable {w : World} {A B C : Option Addr} {a b c : Nat} {l : Log} {o : Op}
end
theorem OwnT.far5 {W : World} {base b : Nat} {v : Value} {s : List Op} (h : OwnT W base v s) {x0 x1 x2 x3 x4 : Value} (hB : Blk W b #[x0, x1, x2, x3, x4] 25) (u0 u1 u2 u3 u4 : Value) : OwnT (wset5 W b u0 u1 u2 u3 u4) base v s := by
 have h1 := hB.set 0 u0 (cs' := #[u0, x1, x2, x3, x4]) rfl
 have h2 := h1.set 1 u1 (cs' := #[u0, u1, x2, x3, x4]) rfl
 have h3 := h2.set 2 u2 (cs' := #[u0, u1, u2, x3, x4]) rfl
 have h4 := h3.set 3 u3 (cs' := #[u0, u1, u2, u3, x4]) rfl
 exact ((((h.far hB (by decide) 0 u0).far h1 (by decide) 1 u1).far h2 (by decide) 2 u2).far h3 (by decide) 3 u3).far h4 (by decide) 4 u4
theorem grown_set5 {w W : World} {r : Option Nat} (h : w.grownBy W r) {b : Nat} (hb : w.heap.size ≤ b) (u0 u1 u2 u3 u4 : Value) : w.grownBy (wset5 W b u0 u1 u2 u3 u4) r := grown_new (grown_new (grown_new (grown_new (grown_new h hb 0 u0) hb 1 u1) hb 2 u2) hb 3 u3) hb 4 u4
theorem tail_append2 {ops rest : List Oper} {P : Array Oper} {o : Oper} {a : Act} {Q : Exit → Act → World → Prop} {W : World} {base : Nat} {v : Value} {os : List Op} (hgd : o.guard = none) (s x : Operand)
  (ho : o.op = .call { callee := .builtin .append, args := #[s, x], argTypes := #[23, 23] }) (hs : a.eval s = v) (y : Op) (ad : Addr) (c : Nat) (hx : a.eval x = .slice (some ad) 1 c)
  (hc : ∀ j u, (encO y)[j]? = some u → W.cell? (ad.add j) = some u) (h : OwnT W base v os) (hl : os.length ≤ 1048576) (hbase : base ≤ W.heap.size)
  (K : ∀ v1 w1, OwnT w1 base v1 (os ++ [y]) → W.grownBy w1 v.ownBlock → (v1.ownBlock = v.ownBlock ∨ ∃ b, v1.ownBlock = some b ∧ W.heap.size ≤ b) → wpList Tryz.prog P Q rest (a.put o.dst v1) w1) :
  wpList Tryz.prog P Q (o :: rest) a W := by
 obtain ⟨v1, w1, hr1, h1, hg, hat⟩ := run_append_tail h o.type y ad c hc hl hbase
 refine wpList_plain hgd fun K' hK => ?_
 unfold Oper.wp execOp
 simp only [ho, resolve, invoke, builtin, Sem.run_bind, Sem.run_pure, Result.andThen_ok, List.map_toArray, List.map_cons, List.map_nil, hs, hx, hr1]
 exact hK _ _ (K v1 w1 h1 hg hat)
def addNB (n : Node) (o : Op) : Bool := match runP newP n.ops with | some q => (opR q o).isSome && decide (n.ops.length < 20) | none => false
def addN (n : Node) (o : Op) : Node := if addNB n o then ⟨n.up, n.term, n.leads, n.alone, n.ops ++ [o]⟩ else n
def AddedN (base : Nat) (w : World) (n : Node) (v0 : Value) (ok : Bool) (e : Ending) (w' : World) : Prop := ∃ v, e = .returned (.tuple #[.agg #[.bool n.up, .int .i64 n.term, .bool n.leads, .bool n.alone, v], .bool ok]) ∧ OwnT w' base v n.ops ∧ w.grownBy w' v0.ownBlock ∧ (v.ownBlock = v0.ownBlock ∨ ∃ b, v.ownBlock = some b ∧ w.heap.size ≤ b) ∧ (ok = false → v = v0)
section
variable {w : World} {A : Option Addr} {c base : Nat} {n : Node} {o : Op}
theorem l21Add_c {q : Pool} (h : OwnT w base (.slice A n.ops.length c) n.ops) (hbase : base ≤ w.heap.size) (ho : SmallOs n.ops) (hso : SmallO o) (hr : runP newP n.ops = some q) :
  Calls Tryz.prog 111 #[.agg #[.bool n.up, .int .i64 n.term, .bool n.leads, .bool n.alone, .slice A n.ops.length c], .agg #[.int .i64 o.kind, .string o.name, .string o.dest, .int .i64 o.n, .string o.text]] w (AddedN base w (addN n o) (.slice A n.ops.length c) (addNB n o)) := by
 have HT := Lib.hid h
 have HBS := Lib.hid hbase
 have HO := Lib.hid ho
 have HSO := Lib.hid hso
 have HRX := Lib.hid hr
 have HC : Hid (kOp.C w A n.ops.length n.ops) := Lib.hid (by obtain ⟨A', c', e, _, hC⟩ := h.reads; have e := slice_eq e; obtain ⟨rfl, -, rfl⟩ := e; exact hC)
 have hlO := ho.len
 have HQ := Lib.hid (runP_ok _ newP_ok hr)
 obtain ⟨z, hz⟩ : ∃ z, addNB n o = z := ⟨_, rfl⟩
 obtain ⟨xn, hxn⟩ : ∃ x, addN n o = x := ⟨_, rfl⟩
 rw [hz, hxn]
 have HZ := Lib.hid (show ((opR q o).isSome && decide (n.ops.length < 20)) = z by rw [← hz]; unfold addNB; rw [hr])
 have HXN := Lib.hid (show (if z then (⟨n.up, n.term, n.leads, n.alone, n.ops ++ [o]⟩ : Node) else n) = xn by rw [← hxn, ← hz]; rfl)
 have HNP := Lib.hid specPoolNew_c
 obtain ⟨np, hnp⟩ : ∃ np, newP = np := ⟨_, rfl⟩
 obtain ⟨x, hx⟩ : ∃ x, q = x := ⟨_, rfl⟩
 subst hx
 have HRX0 := Lib.hid hr
 rw [hnp] at HNP HRX
 clear h hbase ho hso hr hz hxn
 go_enter Tryz.func111, Tryz.ntmps111
 go_wp2
 have hN : Blk (((w.alloc (.cells (nC n A c) 25)).alloc (.cells (oC o) 27)).alloc (.cells zN_ 25)) w.heap.size (nC n A c) 25 := ((Blk.new _ _ _).alloc _).alloc _
 have hP : Blk (((w.alloc (.cells (nC n A c) 25)).alloc (.cells (oC o) 27)).alloc (.cells zN_ 25)) (w.heap.size + 1) (oC o) 27 := (Blk.nw2 w _ _ _).alloc _
 have hR : Blk (((w.alloc (.cells (nC n A c) 25)).alloc (.cells (oC o) 27)).alloc (.cells zN_ 25)) (w.heap.size + 1 + 1) zN_ 25 := by have := Blk.new ((w.alloc (.cells (nC n A c) 25)).alloc (.cells (oC o) 27)) zN_ 25; simpa using this
 have hW : Bel w (((w.alloc (.cells (nC n A c) 25)).alloc (.cells (oC o) 27)).alloc (.cells zN_ 25)) := bel_alloc (bel_alloc (bel_alloc (Below.refl _ _) _) _) _
 generalize (((w.alloc (.cells (nC n A c) 25)).alloc (.cells (oC o) 27)).alloc (.cells zN_ 25)) = W0 at hN hP hR hW ⊢
 have hd : Bel W0 W0.drew := (Below.refl _ _).drew
 have HN : Hid (Blk W0.drew w.heap.size (nC n A c) 25) := Lib.hid (hN.bel hd)
 have HP : Hid (Blk W0.drew (w.heap.size + 1) (oC o) 27) := Lib.hid (hP.bel hd)
 have HRS : Hid (Blk W0.drew (w.heap.size + 1 + 1) zN_ 25) := Lib.hid (hR.bel hd)
 have HW : Hid (Bel w W0.drew) := Lib.hid (hW.tr hd)
 have HT0 : Hid (OwnT W0.drew base (.slice A n.ops.length c) n.ops) := Lib.hid (HT.out.bel HW.out)
 have hfx := Lib.hid (fun (W : World) (hb : Bel W0.drew W) => (show W.cell? ⟨w.heap.size, 4, none⟩ = some (.slice A n.ops.length c) from blkn (HN.out.bel hb) 4 _ rfl))
 have hC1 : kOp.C W0.drew A n.ops.length n.ops := kOp_keep HC.out HW.out
 have D0 : Hid (Bel W0.drew W0.drew) := Lib.hid (Below.refl _ _)
 have hrs : (runP newP n.ops).isSome = true := by rw [HRX0.out]; rfl
 have hrun := Lib.hid (fun (W' : World) (v0 v1 : Value) (bvs : List Value) (h : OwnP W' W0.drew.heap.size v0 v1 newP bvs) (hb : Bel W0.drew W') => l13Run_c (c2 := c) h newP_ok (Below.size hb) hC1 (Nat.le_refl _) hb HO.out)
 unfold RunsP at hrun
 rw [hrs, hnp] at hrun
 clear hN hP hR hW hd hC1 hrs hnp
 refine start_ (n := 10) (S := fun w' => w'.cell? ⟨w.heap.size, 4, none⟩ = some (.slice A n.ops.length c)) (ds := [8]) #[F, F, F, F, F, F, F, F, F, F] (by kernel_rfl) rfl rfl ((hfx.out _ D0.out)) (fun hHeld => ?_)
 refine py 1 (some 12) #[F, T, F, F, F, F, F, F, F, F] ?_
 refine ty 2 (some 13) #[F, T, T, F, F, F, F, F, F, F] (hS := hHeld) (hz := by intro w' s0; go_simp; with_reducible rfl) (h := ?_)
 refine join_ (σ := Option Addr × Nat × Option Addr × Nat × Option Addr × Nat × Option Addr × Nat × List Value × Nat) 2 #[T, T, T, T, T, T, T, T, F, F] (fun s => [(11, .agg #[.slice s.1 np.slots.length s.2.1, .slice s.2.2.1 np.vols.length s.2.2.2.1]), (14, .tuple #[.agg #[.slice s.2.2.2.2.1 q.slots.length s.2.2.2.2.2.1, .slice s.2.2.2.2.2.2.1 q.vols.length s.2.2.2.2.2.2.2.1], .bool true]), (10, .tuple #[.agg #[.slice s.2.2.2.2.1 q.slots.length s.2.2.2.2.2.1, .slice s.2.2.2.2.2.2.1 q.vols.length s.2.2.2.2.2.2.2.1], .bool true]), (15, .agg #[.slice s.2.2.2.2.1 q.slots.length s.2.2.2.2.2.1, .slice s.2.2.2.2.2.2.1 q.vols.length s.2.2.2.2.2.2.2.1]), (16, .bool true), (6, .pointer (some ⟨s.2.2.2.2.2.2.2.2.2, 0, none⟩))]) (fun s w' => (w'.cell? ⟨w.heap.size, 4, none⟩ = some (.slice A n.ops.length c)) ∧ OwnP w' W0.drew.heap.size (.slice s.2.2.2.2.1 q.slots.length s.2.2.2.2.2.1) (.slice s.2.2.2.2.2.2.1 q.vols.length s.2.2.2.2.2.2.2.1) q s.2.2.2.2.2.2.2.2.1 ∧ Blk w' s.2.2.2.2.2.2.2.2.2 #[.slice none 0 0, .slice none 0 0] 44 ∧ W0.drew.heap.size ≤ s.2.2.2.2.2.2.2.2.2 ∧ Bel W0.drew w') ?_ ?_
 rotate_left
 ·intro hCont
  refine two_ (i := 0) (j := 7) (Ni := some 11) (Nj := some 6) #[T, T, T, F, F, F, F, F, F, F] #[F, T, T, F, F, F, F, T, F, F] rfl rfl rfl rfl (by kernel_rfl) (by decide) (by decide) (fun K hK => ?_) (fun K hK => ?_)
  ·skip
   refine goes_ Tryz.func51 (by kernel_rfl) rfl #[] (by rfl) rfl rfl (by simp only [List.map_toArray, List.map_cons, List.map_nil]) ?_
   with_reducible refine (HNP.out _).mono ?_
   rintro e w1_ ⟨va, vb, bva, rfl, ho, X1⟩
   have D1 := Lib.hid (Bel.tr D0.out X1)
   obtain ⟨A5, B5, k5, m5, rfl, rfl, hpi⟩ := ho.reads
   have P1 : Hid (OwnP w1_ W0.drew.heap.size (.slice A5 np.slots.length k5) (.slice B5 np.vols.length m5) np bva) := Lib.hid (ho.lower D0.out.size)
   clear ho hpi
   refine ⟨_, rfl, ?_⟩
   refine hK.out _ _ ((hfx.out _ D1.out)) (fun hHeld => ?_)
   clear hK K
   refine nox 11 (h := ?_)
   refine two_ (i := 3) (j := 7) (Ni := some 14) (Nj := some 6) #[T, T, T, T, F, F, F, F, F, F] #[T, T, T, F, F, F, F, T, F, F] rfl rfl rfl rfl (by kernel_rfl) (by decide) (by decide) (fun K hK => ?_) (fun K hK => ?_)
   ·skip
    refine gox Tryz.func50 #[.agg #[.slice A5 np.slots.length k5, .slice B5 np.vols.length m5], .slice A n.ops.length c] ?_
    with_reducible refine (hrun.out _ _ _ _ P1.out D1.out).mono ?_
    rintro e w2_ ⟨A2, A3, n2, n3, k2, k3, rfl, hq, X2⟩
    have D2 : Hid (Bel W0.drew w2_) := Lib.hid (D1.out.trans X2.b)
    obtain ⟨bvc, hq2⟩ := hq q HRX.out
    obtain ⟨E0, E1, d0, d1, e0, e1, hpi⟩ := hq2.reads
    have e0 := slice_eq e0
    have e1 := slice_eq e1
    obtain ⟨rfl, rfl, rfl⟩ := e0
    obtain ⟨rfl, rfl, rfl⟩ := e1
    have Q2 := Lib.hid hq2
    clear hq hq2 hpi
    refine ⟨_, rfl, ?_⟩
    refine hK.out _ _ ((hfx.out _ D2.out)) (fun hHeld => ?_)
    clear hK K
    refine nox 14 (h := ?_)
    refine py 4 (some 10) #[T, T, T, T, T, F, F, F, F, F] ?_
    refine py 5 (some 15) #[T, T, T, T, T, T, F, F, F, F] ?_
    refine py 6 (some 16) #[T, T, T, T, T, T, T, F, F, F] ?_
    refine ox 7 (some 6) #[T, T, T, T, T, T, T, T, F, F] fun K hK => ?_
    refine vx ?_
    have D3 : Hid (Bel W0.drew (w2_.alloc (.cells #[.slice none 0 0, .slice none 0 0] 44))) := Lib.hid (bel_alloc D2.out (.cells #[.slice none 0 0, .slice none 0 0] 44))
    have Q3 := Lib.hid (OwnP.bel Q2.out (bel_alloc (Below.refl _ _) (.cells #[.slice none 0 0, .slice none 0 0] 44)))
    have O3 : Hid (Blk (w2_.alloc (.cells #[.slice none 0 0, .slice none 0 0] 44)) w2_.heap.size #[.slice none 0 0, .slice none 0 0] 44) := Lib.hid (Blk.new w2_ _ _)
    have L3 := D2.out.size
    refine hK.out _ _ ((hfx.out _ D3.out)) (fun hHeld => ?_)
    clear hK K
    refine nox 6 (h := ?_)
    exact nof (hCont (A5, k5, B5, m5, A2, k2, A3, k3, bvc, w2_.heap.size) _ ⟨hHeld, Q3.out, O3.out, L3, D3.out⟩)
   ·skip
    refine vx ?_
    have D2 : Hid (Bel W0.drew (w1_.alloc (.cells #[.slice none 0 0, .slice none 0 0] 44))) := Lib.hid (bel_alloc D1.out (.cells #[.slice none 0 0, .slice none 0 0] 44))
    have P2 := Lib.hid (OwnP.bel P1.out (bel_alloc (Below.refl _ _) (.cells #[.slice none 0 0, .slice none 0 0] 44)))
    have O2 : Hid (Blk (w1_.alloc (.cells #[.slice none 0 0, .slice none 0 0] 44)) w1_.heap.size #[.slice none 0 0, .slice none 0 0] 44) := Lib.hid (Blk.new w1_ _ _)
    have L2 := D1.out.size
    refine hK.out _ _ ((hfx.out _ D2.out)) (fun hHeld => ?_)
    clear hK K
    refine nox 6 (h := ?_)
    refine ox 3 (some 14) #[T, T, T, T, F, F, F, T, F, F] fun K hK => ?_
    refine gox Tryz.func50 #[.agg #[.slice A5 np.slots.length k5, .slice B5 np.vols.length m5], .slice A n.ops.length c] ?_
    with_reducible refine (hrun.out _ _ _ _ P2.out D2.out).mono ?_
    rintro e w3_ ⟨A2, A3, n2, n3, k2, k3, rfl, hq, X3⟩
    have D3 : Hid (Bel W0.drew w3_) := Lib.hid (D2.out.trans X3.b)
    obtain ⟨bvc, hq2⟩ := hq q HRX.out
    obtain ⟨E0, E1, d0, d1, e0, e1, hpi⟩ := hq2.reads
    have e0 := slice_eq e0
    have e1 := slice_eq e1
    obtain ⟨rfl, rfl, rfl⟩ := e0
    obtain ⟨rfl, rfl, rfl⟩ := e1
    have Q3 := Lib.hid hq2
    clear hq hq2 hpi
    have O3 := Lib.hid (X3.k _ _ _ (by decide) (by decide) (by decide) O2.out)
    refine ⟨_, rfl, ?_⟩
    refine hK.out _ _ ((hfx.out _ D3.out)) (fun hHeld => ?_)
    clear hK K
    refine nox 14 (h := ?_)
    refine py 4 (some 10) #[T, T, T, T, T, F, F, T, F, F] ?_
    refine py 5 (some 15) #[T, T, T, T, T, T, F, T, F, F] ?_
    refine py 6 (some 16) #[T, T, T, T, T, T, T, T, F, F] ?_
    exact nof (hCont (A5, k5, B5, m5, A2, k2, A3, k3, bvc, w1_.heap.size) _ ⟨hHeld, Q3.out, O3.out, L2, D3.out⟩)
  ·skip
   refine vx ?_
   have D1 : Hid (Bel W0.drew (W0.alloc (.cells #[.slice none 0 0, .slice none 0 0] 44)).drew) := Lib.hid (bel_alloc D0.out (.cells #[.slice none 0 0, .slice none 0 0] 44))
   have O1 : Hid (Blk (W0.alloc (.cells #[.slice none 0 0, .slice none 0 0] 44)).drew W0.drew.heap.size #[.slice none 0 0, .slice none 0 0] 44) := Lib.hid (Blk.new W0.drew _ _)
   have L1 := D0.out.size
   refine hK.out _ _ ((hfx.out _ D1.out)) (fun hHeld => ?_)
   clear hK K
   refine nox 6 (h := ?_)
   refine ox 0 (some 11) #[T, T, T, F, F, F, F, T, F, F] fun K hK => ?_
   refine goes_ Tryz.func51 (by kernel_rfl) rfl #[] (by rfl) rfl rfl (by simp only [List.map_toArray, List.map_cons, List.map_nil]) ?_
   with_reducible refine (HNP.out _).mono ?_
   rintro e w2_ ⟨va, vb, bva, rfl, ho, X2⟩
   have D2 := Lib.hid (Bel.tr D1.out X2)
   obtain ⟨A5, B5, k5, m5, rfl, rfl, hpi⟩ := ho.reads
   have O2 := Lib.hid (Blk.bel O1.out X2)
   have P2 : Hid (OwnP w2_ W0.drew.heap.size (.slice A5 np.slots.length k5) (.slice B5 np.vols.length m5) np bva) := Lib.hid (ho.lower D1.out.size)
   clear ho hpi
   refine ⟨_, rfl, ?_⟩
   refine hK.out _ _ ((hfx.out _ D2.out)) (fun hHeld => ?_)
   clear hK K
   refine nox 11 (h := ?_)
   refine ox 3 (some 14) #[T, T, T, T, F, F, F, T, F, F] fun K hK => ?_
   refine gox Tryz.func50 #[.agg #[.slice A5 np.slots.length k5, .slice B5 np.vols.length m5], .slice A n.ops.length c] ?_
   with_reducible refine (hrun.out _ _ _ _ P2.out D2.out).mono ?_
   rintro e w3_ ⟨A2, A3, n2, n3, k2, k3, rfl, hq, X3⟩
   have D3 : Hid (Bel W0.drew w3_) := Lib.hid (D2.out.trans X3.b)
   obtain ⟨bvc, hq2⟩ := hq q HRX.out
   obtain ⟨E0, E1, d0, d1, e0, e1, hpi⟩ := hq2.reads
   have e0 := slice_eq e0
   have e1 := slice_eq e1
   obtain ⟨rfl, rfl, rfl⟩ := e0
   obtain ⟨rfl, rfl, rfl⟩ := e1
   have Q3 := Lib.hid hq2
   clear hq hq2 hpi
   have O3 := Lib.hid (X3.k _ _ _ (by decide) (by decide) (by decide) O2.out)
   refine ⟨_, rfl, ?_⟩
   refine hK.out _ _ ((hfx.out _ D3.out)) (fun hHeld => ?_)
   clear hK K
   refine nox 14 (h := ?_)
   refine py 4 (some 10) #[T, T, T, T, T, F, F, T, F, F] ?_
   refine py 5 (some 15) #[T, T, T, T, T, T, F, T, F, F] ?_
   refine py 6 (some 16) #[T, T, T, T, T, T, T, T, F, F] ?_
   exact nof (hCont (A5, k5, B5, m5, A2, k2, A3, k3, bvc, W0.heap.size) _ ⟨hHeld, Q3.out, O3.out, L1, D3.out⟩)
 rintro ⟨A5, k5, B5, m5, A2, k2, A3, k3, bvc, nb⟩ w3 ⟨hHeld, hQ, hO, hL, hD⟩
 dsimp only at hQ hO hL
 obtain ⟨r0, r1, f0, f1, -⟩ := k2f hO
 refine norm_ (a' := ?_) ?_ ?_
 rotate_left
 ·simp only [putAll, Act.put, lA, lB, lC]
  rfl
 refine lx 8 none #[T, T, T, T, T, T, T, T, T, F] fun K hK => ?_
 refine sx ?_
 refine hK.out _ _ ?_
 clear hK K
 refine py 9 (some 7) #[T, T, T, T, T, T, T, T, T, T] ?_
 refine done_ (by kernel_rfl) ?_
 have hO1 := hO.set 0 (.slice A2 q.slots.length k2) (cs' := #[.slice A2 q.slots.length k2, .slice none 0 0]) rfl
 have hO2 := hO1.set 1 (.slice A3 q.vols.length k3) (cs' := #[.slice A2 q.slots.length k2, .slice A3 q.vols.length k3]) rfl
 have hq2 := (hQ.far hO (by decide) (by decide) (by decide) 0 (.slice A2 q.slots.length k2)).far hO1 (by decide) (by decide) (by decide) 1 (.slice A3 q.vols.length k3)
 have hb5 : Bel W0.drew ((w3.setCell ⟨nb, 0, none⟩ (.slice A2 q.slots.length k2)).setCell ⟨nb, 1, none⟩ (.slice A3 q.vols.length k3)) := bel_set (bel_set hD hL 0 (.slice A2 q.slots.length k2)) hL 1 (.slice A3 q.vols.length k3)
 clear hO hO1 hD hL hQ f0 f1 r0 r1 hHeld D0 hrun hfx
 generalize ((w3.setCell ⟨nb, 0, none⟩ (.slice A2 q.slots.length k2)).setCell ⟨nb, 1, none⟩ (.slice A3 q.vols.length k3)) = W5 at hO2 hq2 hb5 ⊢
 have HO2 := Lib.hid hO2
 have HQ2 := Lib.hid hq2
 have HB5 := Lib.hid hb5
 have p0 := blkn (HP.out.bel hb5) 0 _ rfl
 have p1 := blkn (HP.out.bel hb5) 1 _ rfl
 have p2 := blkn (HP.out.bel hb5) 2 _ rfl
 have p3 := blkn (HP.out.bel hb5) 3 _ rfl
 have p4 := blkn (HP.out.bel hb5) 4 _ rfl
 have py := (HP.out.bel hb5).lt
 clear hO2 hq2 hb5
 go_wp2_with fail
 obtain ⟨op, hop⟩ : ∃ b, opOk o = b := ⟨_, rfl⟩
 have hk := specOpOk_c o HSO.out W5
 rw [hop] at hk
 refine hk.mono ?_
 rintro e w6 ⟨rfl, hb6⟩
 have HB6 := Lib.hid (HB5.out.tr hb6)
 have HQ6 := Lib.hid (HQ2.out.bel hb6)
 have HO6 := Lib.hid (HO2.out.bel hb6)
 clear hb6 hk p0 p1 p2 p3 p4 py
 have HQP := HQ
 obtain rfl | rfl : op = false ∨ op = true := by cases op <;> simp
 ·have hzf : false = z := by rw [← HZ.out]; unfold opR; rw [hop]; rfl
  subst hzf
  obtain rfl : n = xn := HXN.out
  have hn_ := HN.out.bel HB6.out
  have hr_ := HRS.out.bel HB6.out
  have ho_ := HP.out.bel HB6.out
  obtain ⟨n0, n1, n2, n3, n4, -⟩ := k5c hn_
  obtain ⟨r0, r1, r2, r3, r4, -⟩ := k5c hr_
  obtain ⟨o0, o1, o2, o3, o4, -⟩ := k5c ho_
  have nf0 := hn_.free 0
  have nf1 := hn_.free 1
  have nf2 := hn_.free 2
  have nf3 := hn_.free 3
  have nf4 := hn_.free 4
  have rf0 := hr_.free 0
  have rf1 := hr_.free 1
  have rf2 := hr_.free 2
  have rf3 := hr_.free 3
  have rf4 := hr_.free 4
  have ny := hn_.lt
  have ry := hr_.lt
  have oy := ho_.lt
  go_wp2
  have hR9 := hr_.set5 (.bool n.up) (.int .i64 n.term) (.bool n.leads) (.bool n.alone) (.slice A n.ops.length c)
  have hT9 := (HT0.out.bel HB6.out).far5 hr_ (.bool n.up) (.int .i64 n.term) (.bool n.leads) (.bool n.alone) (.slice A n.ops.length c)
  have hg9 := grown_set5 (grown_of_bel (HW.out.tr HB6.out) (Value.slice A n.ops.length c).ownBlock) (show w.heap.size ≤ w.heap.size + 1 + 1 by omega) (.bool n.up) (.int .i64 n.term) (.bool n.leads) (.bool n.alone) (.slice A n.ops.length c)
  refine bodyPost_ret (results_ct rfl _ _ (w.heap.size + 1 + 1) 25 (nC n A c) (0, 0) _ rfl hR9 Tryz.underlying25 rfl (by kernel_rfl)) rfl ?_
  exact ⟨_, rfl, hT9, hg9, .inl rfl, fun _ => rfl⟩
 ·by_cases hl : n.ops.length < 20
  ·have hl20 : ¬ (20 : Int) ≤ (n.ops.length : Int) := by omega
   have hn_ := HN.out.bel HB6.out
   have hr_ := HRS.out.bel HB6.out
   have ho_ := HP.out.bel HB6.out
   obtain ⟨n0, n1, n2, n3, n4, -⟩ := k5c hn_
   obtain ⟨r0, r1, r2, r3, r4, -⟩ := k5c hr_
   obtain ⟨o0, o1, o2, o3, o4, -⟩ := k5c ho_
   have nf0 := hn_.free 0
   have nf1 := hn_.free 1
   have nf2 := hn_.free 2
   have nf3 := hn_.free 3
   have nf4 := hn_.free 4
   have rf0 := hr_.free 0
   have rf1 := hr_.free 1
   have rf2 := hr_.free 2
   have rf3 := hr_.free 3
   have rf4 := hr_.free 4
   have ny := hn_.lt
   have ry := hr_.lt
   have oy := ho_.lt
   have t0 := blkn HO6.out 0 _ rfl
   have t1 := blkn HO6.out 1 _ rfl
   have ty := HO6.out.lt
   go_wp2_with fail
   clear t0 t1 ty
   have hdo := l12Do_c (o := o) HQ6.out HQP.out HB6.out.size HSO.out
   obtain ⟨qq, hqq⟩ : ∃ qq, (opF q o).getD q = qq := ⟨_, rfl⟩
   obtain ⟨ok, hok⟩ : ∃ ok, (opF q o).isSome = ok := ⟨_, rfl⟩
   have hor : opR q o = opF q o := by unfold opR; rw [if_pos hop]
   have hzk : ok = z := by rw [← HZ.out, hor, hok, decide_eq_true hl, Bool.and_true]
   subst hzk
   unfold TurnsP at hdo
   rw [hqq, hok] at hdo
   refine hdo.mono ?_
   rintro e w7 ⟨u0, u1, bu, rfl, hu, hfr⟩
   obtain ⟨A8, B8, a8, b8, rfl, rfl, hpi⟩ := hu.reads
   have hb7 : Bel W0.drew w7 := HB6.out.trans hfr.b
   have HB7 := Lib.hid hb7
   have HB8 : Hid (Bel W0.drew (w7.alloc (.cells #[.slice A8 qq.slots.length a8, .slice B8 qq.vols.length b8] 44))) := Lib.hid (bel_alloc hb7 _)
   clear hdo hqq hok hor hu hfr hpi hb7 n0 n1 n2 n3 n4 r0 r1 r2 r3 r4 o0 o1 o2 o3 o4 nf0 nf1 nf2 nf3 nf4 rf0 rf1 rf2 rf3 rf4 ny ry oy hn_ hr_ ho_
   cases ok with
   | false =>
    obtain rfl : n = xn := HXN.out
    have hn_ := HN.out.bel HB7.out
    have hr_ := HRS.out.bel HB7.out
    have ho_ := HP.out.bel HB7.out
    obtain ⟨n0, n1, n2, n3, n4, -⟩ := k5c hn_
    obtain ⟨r0, r1, r2, r3, r4, -⟩ := k5c hr_
    obtain ⟨o0, o1, o2, o3, o4, -⟩ := k5c ho_
    have nf0 := hn_.free 0
    have nf1 := hn_.free 1
    have nf2 := hn_.free 2
    have nf3 := hn_.free 3
    have nf4 := hn_.free 4
    have rf0 := hr_.free 0
    have rf1 := hr_.free 1
    have rf2 := hr_.free 2
    have rf3 := hr_.free 3
    have rf4 := hr_.free 4
    have ny := hn_.lt
    have ry := hr_.lt
    have oy := ho_.lt
    go_wp2
    have hR9 := hr_.set5 (.bool n.up) (.int .i64 n.term) (.bool n.leads) (.bool n.alone) (.slice A n.ops.length c)
    have hT9 := (HT0.out.bel HB7.out).far5 hr_ (.bool n.up) (.int .i64 n.term) (.bool n.leads) (.bool n.alone) (.slice A n.ops.length c)
    have hg9 := grown_set5 (grown_of_bel (HW.out.tr HB7.out) (Value.slice A n.ops.length c).ownBlock) (show w.heap.size ≤ w.heap.size + 1 + 1 by omega) (.bool n.up) (.int .i64 n.term) (.bool n.leads) (.bool n.alone) (.slice A n.ops.length c)
    refine bodyPost_ret (results_ct rfl _ _ (w.heap.size + 1 + 1) 25 (nC n A c) (0, 0) _ rfl (hR9.alloc _) Tryz.underlying25 rfl (by kernel_rfl)) rfl ?_
    exact ⟨_, rfl, hT9.bel (bel_alloc (Below.refl _ _) _), grown_tr hg9 (grown_of_bel (bel_alloc (Below.refl _ _) _) _), .inl rfl, fun _ => rfl⟩
   | true =>
    obtain rfl : (⟨n.up, n.term, n.leads, n.alone, n.ops ++ [o]⟩ : Node) = xn := HXN.out
    have hn_ := HN.out.bel HB7.out
    have hr_ := HRS.out.bel HB7.out
    have ho_ := HP.out.bel HB7.out
    obtain ⟨n0, n1, n2, n3, n4, -⟩ := k5c hn_
    obtain ⟨r0, r1, r2, r3, r4, -⟩ := k5c hr_
    obtain ⟨o0, o1, o2, o3, o4, -⟩ := k5c ho_
    have nf0 := hn_.free 0
    have nf1 := hn_.free 1
    have nf2 := hn_.free 2
    have nf3 := hn_.free 3
    have nf4 := hn_.free 4
    have rf0 := hr_.free 0
    have rf1 := hr_.free 1
    have rf2 := hr_.free 2
    have rf3 := hr_.free 3
    have rf4 := hr_.free 4
    have ny := hn_.lt
    have ry := hr_.lt
    have oy := ho_.lt
    go_wp2_with (
     at_builtin
     refine tail_append2 (ops := []) rfl (.tmp 37) (.tmp 39) rfl rfl o ⟨w7.heap.size + 1, 0, none⟩ 1 rfl (blk_op5 (show Blk ((w7.alloc (.cells #[.slice A8 qq.slots.length a8, .slice B8 qq.vols.length b8] 44)).alloc (.cells (oC o) 27)) (w7.heap.size + 1) (oC o) 27 from Blk.nw2 _ _ _ _)) ((HT0.out.bel HB8.out).bel (bel_alloc (Below.refl _ _) _)) (by omega) (Nat.le_trans HBS.out (Nat.le_trans HW.out.size (Nat.le_trans HB8.out.size (bel_alloc (Below.refl _ _) _ : Bel (w7.alloc (.cells #[.slice A8 qq.slots.length a8, .slice B8 qq.vols.length b8] 44)) _).size))) ?_
     intro v1 w9 hv1 hgr hat
     obtain ⟨no, hno⟩ : ∃ no, n.ops ++ [o] = no := ⟨_, rfl⟩
     rw [hno] at hv1
     obtain ⟨C4, c4, rfl, hc4, hC4⟩ := hv1.reads
     have ha : Bel (w7.alloc (.cells #[.slice A8 qq.slots.length a8, .slice B8 qq.vols.length b8] 44)) ((w7.alloc (.cells #[.slice A8 qq.slots.length a8, .slice B8 qq.vols.length b8] 44)).alloc (.cells (oC o) 27)) := bel_alloc (Below.refl _ _) _
     have hT1 : OwnT ((w7.alloc (.cells #[.slice A8 qq.slots.length a8, .slice B8 qq.vols.length b8] 44)).alloc (.cells (oC o) 27)) base (.slice A n.ops.length c) n.ops := (HT0.out.bel HB8.out).bel ha
     have hn8 := (HN.out.bel HB8.out).bel ha
     have hr8 := (HRS.out.bel HB8.out).bel ha
     have HN9 := Lib.hid (hn8.grown hgr (blk_otherT hT1 hn8 (by decide)))
     have HR9 := Lib.hid (hr8.grown hgr (blk_otherT hT1 hr8 (by decide)))
     have HG9 := Lib.hid (grown_tr (grown_of_bel ((HW.out.tr HB8.out).tr ha) (Value.slice A n.ops.length c).ownBlock) hgr)
     have HV9 := Lib.hid hv1
     have HAT := Lib.hid (show (Value.slice C4 no.length c4).ownBlock = (Value.slice A n.ops.length c).ownBlock ∨ ∃ b, (Value.slice C4 no.length c4).ownBlock = some b ∧ w.heap.size ≤ b from hat.imp id (fun ⟨b, h1, h2⟩ => ⟨b, h1, Nat.le_trans ((HW.out.tr HB8.out).tr ha).size h2⟩))
     clear hv1 hgr hat hc4 hC4 ha hT1 hn8 hr8 n0 n1 n2 n3 n4 r0 r1 r2 r3 r4 o0 o1 o2 o3 o4 nf0 nf1 nf2 nf3 nf4 rf0 rf1 rf2 rf3 rf4 ny ry oy hn_ hr_ ho_
     have hn_ := HN9.out
     have hr_ := HR9.out
     obtain ⟨n0, n1, n2, n3, n4, -⟩ := k5c hn_
     obtain ⟨r0, r1, r2, r3, r4, -⟩ := k5c hr_
     have nf0 := hn_.free 0
     have nf1 := hn_.free 1
     have nf2 := hn_.free 2
     have nf3 := hn_.free 3
     have nf4 := hn_.free 4
     have rf0 := hr_.free 0
     have rf1 := hr_.free 1
     have rf2 := hr_.free 2
     have rf3 := hr_.free 3
     have rf4 := hr_.free 4
     have ny := hn_.lt
     have ry := hr_.lt)
    have hR10 := hr_.apart (show ¬ w.heap.size = w.heap.size + 1 + 1 by omega) 4 (.slice C4 no.length c4)
    have hR11 := hR10.set5 (.bool n.up) (.int .i64 n.term) (.bool n.leads) (.bool n.alone) (.slice C4 no.length c4)
    have hT11 := (HV9.out.far hn_ (by decide) 4 (.slice C4 no.length c4)).far5 hR10 (.bool n.up) (.int .i64 n.term) (.bool n.leads) (.bool n.alone) (.slice C4 no.length c4)
    have hg11 := grown_set5 (grown_new HG9.out (Nat.le_refl _) 4 (.slice C4 no.length c4)) (show w.heap.size ≤ w.heap.size + 1 + 1 by omega) (.bool n.up) (.int .i64 n.term) (.bool n.leads) (.bool n.alone) (.slice C4 no.length c4)
    refine bodyPost_ret (results_ct rfl _ _ (w.heap.size + 1 + 1) 25 #[.bool n.up, .int .i64 n.term, .bool n.leads, .bool n.alone, .slice C4 no.length c4] (0, 0) _ rfl hR11 Tryz.underlying25 rfl (by kernel_rfl)) rfl ?_
    subst hno
    exact ⟨_, rfl, hT11, hg11, HAT.out, fun h => by cases h⟩
  ·have hl20 : (20 : Int) ≤ (n.ops.length : Int) := by omega
   have hzf : false = z := by rw [← HZ.out, decide_eq_false hl, Bool.and_false]
   subst hzf
   obtain rfl : n = xn := HXN.out
   have hn_ := HN.out.bel HB6.out
   have hr_ := HRS.out.bel HB6.out
   have ho_ := HP.out.bel HB6.out
   obtain ⟨n0, n1, n2, n3, n4, -⟩ := k5c hn_
   obtain ⟨r0, r1, r2, r3, r4, -⟩ := k5c hr_
   obtain ⟨o0, o1, o2, o3, o4, -⟩ := k5c ho_
   have nf0 := hn_.free 0
   have nf1 := hn_.free 1
   have nf2 := hn_.free 2
   have nf3 := hn_.free 3
   have nf4 := hn_.free 4
   have rf0 := hr_.free 0
   have rf1 := hr_.free 1
   have rf2 := hr_.free 2
   have rf3 := hr_.free 3
   have rf4 := hr_.free 4
   have ny := hn_.lt
   have ry := hr_.lt
   have oy := ho_.lt
   go_wp2
   have hR9 := hr_.set5 (.bool n.up) (.int .i64 n.term) (.bool n.leads) (.bool n.alone) (.slice A n.ops.length c)
   have hT9 := (HT0.out.bel HB6.out).far5 hr_ (.bool n.up) (.int .i64 n.term) (.bool n.leads) (.bool n.alone) (.slice A n.ops.length c)
   have hg9 := grown_set5 (grown_of_bel (HW.out.tr HB6.out) (Value.slice A n.ops.length c).ownBlock) (show w.heap.size ≤ w.heap.size + 1 + 1 by omega) (.bool n.up) (.int .i64 n.term) (.bool n.leads) (.bool n.alone) (.slice A n.ops.length c)
   refine bodyPost_ret (results_ct rfl _ _ (w.heap.size + 1 + 1) 25 (nC n A c) (0, 0) _ rfl hR9 Tryz.underlying25 rfl (by kernel_rfl)) rfl ?_
   exact ⟨_, rfl, hT9, hg9, .inl rfl, fun _ => rfl⟩
end
def wsets (W : World) (b : Nat) : Nat → List Value → World
 | _, [] => W
 | j, v :: vs => wsets (W.setCell ⟨b, j, none⟩ v) b (j + 1) vs
theorem Blk.setsAt {b : Nat} {t : TypeId} (vs : List Value) : ∀ {W : World} {pre cs : List Value}, Blk W b (pre ++ cs).toArray t → cs.length = vs.length → Blk (wsets W b pre.length vs) b (pre ++ vs).toArray t := by
 induction vs with
 | nil => intro W pre cs h hl; obtain rfl := List.length_eq_zero_iff.1 hl; exact h
 | cons v vs ih =>
  intro W pre cs h hl
  cases cs with
  | nil => cases hl
  | cons c cs =>
   have h1 := h.set pre.length v (cs' := ((pre ++ [v]) ++ cs).toArray) (by simp)
   have h2 := ih h1 (by simpa using hl)
   have e : (pre ++ [v]).length = pre.length + 1 := by simp
   rw [e, List.append_assoc] at h2
   exact h2
theorem Blk.sets {b : Nat} {t : TypeId} {W : World} {cs : Array Value} (h : Blk W b cs t) (vs : List Value) (hl : cs.size = vs.length) : Blk (wsets W b 0 vs) b vs.toArray t :=
 Blk.setsAt vs (pre := []) (cs := cs.toList) (by simpa using h) (by simpa using hl)
theorem Blk.apartS {b d : Nat} {t : TypeId} {cs : Array Value} (hne : d ≠ b) (vs : List Value) : ∀ {W : World} (j : Nat), Blk W b cs t → Blk (wsets W d j vs) b cs t := by
 induction vs with
 | nil => intro W j h; exact h
 | cons v vs ih => intro W j h; exact ih _ (h.apart hne j v)
theorem bel_sets {w : World} {b : Nat} (hb : w.heap.size ≤ b) (vs : List Value) : ∀ {W : World} (j : Nat), Bel w W → Bel w (wsets W b j vs) := by
 induction vs with
 | nil => intro W j h; exact h
 | cons v vs ih => intro W j h; exact ih _ (bel_set h hb j v)
theorem grown_sets {w : World} {b : Nat} {r : Option Nat} (hb : w.heap.size ≤ b) (vs : List Value) : ∀ {W : World} (j : Nat), w.grownBy W r → w.grownBy (wsets W b j vs) r := by
 induction vs with
 | nil => intro W j h; exact h
 | cons v vs ih => intro W j h; exact ih _ (grown_new h hb j v)
theorem own_set_far {W : World} {base b : Nat} {v : Value} {os : List Op} (h : OwnT W base v os) (hne : ∀ k, v.ownBlock = some k → b ≠ k) (i : Nat) (u : Value) : OwnT (W.setCell ⟨b, i, none⟩ u) base v os := by
 have hg : W.grownBy (W.setCell ⟨b, i, none⟩ u) (some b) := ⟨rfl, rfl, rfl, by simp, fun k hk hne => by
  have : b ≠ k := fun e => hne (by rw [e])
  simp [World.setCell, Array.getElem?_modify, this]⟩
 exact h.kept hg fun k hk e => hne k hk (by injection e)
theorem OwnT.setsN {base b : Nat} {v : Value} {os : List Op} (hne : ∀ k, v.ownBlock = some k → b ≠ k) (vs : List Value) : ∀ {W : World} (j : Nat), OwnT W base v os → OwnT (wsets W b j vs) base v os := by
 induction vs with
 | nil => intro W j h; exact h
 | cons u vs ih => intro W j h; exact ih _ (own_set_far h hne j u)
theorem OwnT.sets {W : World} {base b : Nat} {v : Value} {os : List Op} {cs : Array Value} {t : TypeId} (h : OwnT W base v os) (hB : Blk W b cs t) (ht : 27 ≠ t) (vs : List Value) : OwnT (wsets W b 0 vs) base v os :=
 OwnT.setsN (fun k hk e => blk_otherT h hB ht (by rw [hk, e])) vs 0 h
structure Msg where
  kind : Int
  whom : Int
  term : Int
  n : Int
  op : Op
  ops : List Op
abbrev noO : Op := ⟨0, ⟨#[]⟩, ⟨#[]⟩, 0, ⟨#[]⟩⟩
abbrev mC (a0 : Msg) : Array Value := #[.int .i64 a0.kind, .int .i64 a0.whom, .int .i64 a0.term, .int .i64 a0.n, .int .i64 a0.op.kind, .string a0.op.name, .string a0.op.dest, .int .i64 a0.op.n, .string a0.op.text, .slice none 0 0]
abbrev noM : Msg := ⟨0, 0, 0, 0, noO, []⟩
def askB (n : Node) (o : Op) : Bool := n.up && (n.leads && addNB n o)
def askN (n : Node) (o : Op) : Node := if askB n o then ⟨n.up, n.term, n.leads, n.alone, n.ops ++ [o]⟩ else n
def askM (n : Node) (id : Int) (o : Op) : Msg := if askB n o then ⟨1, 3 - id, n.term, n.ops.length + 1, o, []⟩ else noM
def AskedN (base : Nat) (w : World) (n : Node) (m : Msg) (v0 : Value) (ok : Bool) (e : Ending) (w' : World) : Prop :=
 ∃ v, e = .returned (.tuple #[.agg #[.bool n.up, .int .i64 n.term, .bool n.leads, .bool n.alone, v], .agg #[.int .i64 m.kind, .int .i64 m.whom, .int .i64 m.term, .int .i64 m.n, .int .i64 m.op.kind, .string m.op.name, .string m.op.dest, .int .i64 m.op.n, .string m.op.text, .slice none 0 0], .bool ok]) ∧ OwnT w' base v n.ops ∧ w.grownBy w' v0.ownBlock ∧ (v.ownBlock = v0.ownBlock ∨ ∃ b, v.ownBlock = some b ∧ w.heap.size ≤ b) ∧ (ok = false → v = v0)
section
variable {w : World} {A : Option Addr} {c base : Nat} {up leads alone : Bool} {term id : Int} {ops : List Op} {o : Op}
theorem l21Ask_c {q : Pool} (h : OwnT w base (.slice A ops.length c) ops) (hbase : base ≤ w.heap.size) (ho : SmallOs ops) (hso : SmallO o) (hid : id = 1 ∨ id = 2) (hr : runP newP ops = some q) :
  Calls Tryz.prog 138 #[.agg #[.bool up, .int .i64 term, .bool leads, .bool alone, .slice A ops.length c], .int .i64 id, .agg #[.int .i64 o.kind, .string o.name, .string o.dest, .int .i64 o.n, .string o.text]] w (AskedN base w (askN ⟨up, term, leads, alone, ops⟩ o) (askM ⟨up, term, leads, alone, ops⟩ id o) (.slice A ops.length c) (askB ⟨up, term, leads, alone, ops⟩ o)) := by
 have HT := Lib.hid h
 have HBS := Lib.hid hbase
 have HO := Lib.hid ho
 have HSO := Lib.hid hso
 have HRX := Lib.hid hr
 have HID := Lib.hid hid
 have hl9 := ho.len
 obtain ⟨z, hz⟩ : ∃ z, askB ⟨up, term, leads, alone, ops⟩ o = z := ⟨_, rfl⟩
 obtain ⟨xn, hxn⟩ : ∃ x, askN ⟨up, term, leads, alone, ops⟩ o = x := ⟨_, rfl⟩
 obtain ⟨xm, hxm⟩ : ∃ x, askM ⟨up, term, leads, alone, ops⟩ id o = x := ⟨_, rfl⟩
 rw [hz, hxn, hxm]
 have HZ := Lib.hid (show (up && (leads && addNB ⟨up, term, leads, alone, ops⟩ o)) = z from hz)
 have HXN := Lib.hid (show (if z then (⟨up, term, leads, alone, ops ++ [o]⟩ : Node) else ⟨up, term, leads, alone, ops⟩) = xn by rw [← hxn, ← hz]; rfl)
 have HXM := Lib.hid (show (if z then (⟨1, 3 - id, term, ops.length + 1, o, []⟩ : Msg) else noM) = xm by rw [← hxm, ← hz]; rfl)
 clear h hbase ho hso hid hr hz hxn hxm
 cases up with
 | false =>
  have hzf : false = z := HZ.out
  subst hzf
  have hxn := HXN.out
  have hxm := HXM.out
  subst hxn hxm
  clear HXN HXM HZ
  go_enter Tryz.func138, Tryz.ntmps138
  go_wp2
  have hR : Blk ((((w.alloc (.cells #[.bool false, .int .i64 term, .bool leads, .bool alone, .slice A ops.length c] 25)).alloc (.cells (oC o) 27)).alloc (.cells #[.bool false, .int .i64 term, .bool leads, .bool alone, .slice A ops.length c] 25)).alloc (.cells #[.int .i64 0, .int .i64 0, .int .i64 0, .int .i64 0, .int .i64 0, .string ⟨#[]⟩, .string ⟨#[]⟩, .int .i64 0, .string ⟨#[]⟩, .slice none 0 0] 29)) (w.heap.size + 1 + 1) #[.bool false, .int .i64 term, .bool leads, .bool alone, .slice A ops.length c] 25 := by have := Blk.new ((w.alloc (.cells #[.bool false, .int .i64 term, .bool leads, .bool alone, .slice A ops.length c] 25)).alloc (.cells (oC o) 27)) #[.bool false, .int .i64 term, .bool leads, .bool alone, .slice A ops.length c] 25; simpa using this.alloc _
  have hM : Blk ((((w.alloc (.cells #[.bool false, .int .i64 term, .bool leads, .bool alone, .slice A ops.length c] 25)).alloc (.cells (oC o) 27)).alloc (.cells #[.bool false, .int .i64 term, .bool leads, .bool alone, .slice A ops.length c] 25)).alloc (.cells #[.int .i64 0, .int .i64 0, .int .i64 0, .int .i64 0, .int .i64 0, .string ⟨#[]⟩, .string ⟨#[]⟩, .int .i64 0, .string ⟨#[]⟩, .slice none 0 0] 29)) (w.heap.size + 1 + 1 + 1) #[.int .i64 0, .int .i64 0, .int .i64 0, .int .i64 0, .int .i64 0, .string ⟨#[]⟩, .string ⟨#[]⟩, .int .i64 0, .string ⟨#[]⟩, .slice none 0 0] 29 := by have := Blk.new (((w.alloc (.cells #[.bool false, .int .i64 term, .bool leads, .bool alone, .slice A ops.length c] 25)).alloc (.cells (oC o) 27)).alloc (.cells #[.bool false, .int .i64 term, .bool leads, .bool alone, .slice A ops.length c] 25)) #[.int .i64 0, .int .i64 0, .int .i64 0, .int .i64 0, .int .i64 0, .string ⟨#[]⟩, .string ⟨#[]⟩, .int .i64 0, .string ⟨#[]⟩, .slice none 0 0] 29; simpa using this
  have hW : Bel w ((((w.alloc (.cells #[.bool false, .int .i64 term, .bool leads, .bool alone, .slice A ops.length c] 25)).alloc (.cells (oC o) 27)).alloc (.cells #[.bool false, .int .i64 term, .bool leads, .bool alone, .slice A ops.length c] 25)).alloc (.cells #[.int .i64 0, .int .i64 0, .int .i64 0, .int .i64 0, .int .i64 0, .string ⟨#[]⟩, .string ⟨#[]⟩, .int .i64 0, .string ⟨#[]⟩, .slice none 0 0] 29)) := bel_alloc (bel_alloc (bel_alloc (bel_alloc (Below.refl _ _) _) _) _) _
  refine bodyPost_ret (results_list (rs := [.cell 6 25, .cell 7 29, .tmp 8]) rfl (by simp) (.cell (w.heap.size + 1 + 1) 25 #[.bool false, .int .i64 term, .bool leads, .bool alone, .slice A ops.length c] (0, 0) _ rfl hR Tryz.underlying25 rfl (by kernel_rfl) (.cell (w.heap.size + 1 + 1 + 1) 29 #[.int .i64 0, .int .i64 0, .int .i64 0, .int .i64 0, .int .i64 0, .string ⟨#[]⟩, .string ⟨#[]⟩, .int .i64 0, .string ⟨#[]⟩, .slice none 0 0] (0, 0) _ rfl hM Tryz.underlying29 rfl (by kernel_rfl) (.tmp .nil)))) rfl ?_
  exact ⟨_, rfl, HT.out.bel hW, grown_of_bel hW _, .inl rfl, fun _ => rfl⟩
 | true =>
  cases leads with
  | false =>
   have hzf : false = z := HZ.out
   subst hzf
   have hxn := HXN.out
   have hxm := HXM.out
   subst hxn hxm
   clear HXN HXM HZ
   go_enter Tryz.func138, Tryz.ntmps138
   go_wp2
   have hR : Blk ((((w.alloc (.cells #[.bool true, .int .i64 term, .bool false, .bool alone, .slice A ops.length c] 25)).alloc (.cells (oC o) 27)).alloc (.cells #[.bool true, .int .i64 term, .bool false, .bool alone, .slice A ops.length c] 25)).alloc (.cells #[.int .i64 0, .int .i64 0, .int .i64 0, .int .i64 0, .int .i64 0, .string ⟨#[]⟩, .string ⟨#[]⟩, .int .i64 0, .string ⟨#[]⟩, .slice none 0 0] 29)) (w.heap.size + 1 + 1) #[.bool true, .int .i64 term, .bool false, .bool alone, .slice A ops.length c] 25 := by have := Blk.new ((w.alloc (.cells #[.bool true, .int .i64 term, .bool false, .bool alone, .slice A ops.length c] 25)).alloc (.cells (oC o) 27)) #[.bool true, .int .i64 term, .bool false, .bool alone, .slice A ops.length c] 25; simpa using this.alloc _
   have hM : Blk ((((w.alloc (.cells #[.bool true, .int .i64 term, .bool false, .bool alone, .slice A ops.length c] 25)).alloc (.cells (oC o) 27)).alloc (.cells #[.bool true, .int .i64 term, .bool false, .bool alone, .slice A ops.length c] 25)).alloc (.cells #[.int .i64 0, .int .i64 0, .int .i64 0, .int .i64 0, .int .i64 0, .string ⟨#[]⟩, .string ⟨#[]⟩, .int .i64 0, .string ⟨#[]⟩, .slice none 0 0] 29)) (w.heap.size + 1 + 1 + 1) #[.int .i64 0, .int .i64 0, .int .i64 0, .int .i64 0, .int .i64 0, .string ⟨#[]⟩, .string ⟨#[]⟩, .int .i64 0, .string ⟨#[]⟩, .slice none 0 0] 29 := by have := Blk.new (((w.alloc (.cells #[.bool true, .int .i64 term, .bool false, .bool alone, .slice A ops.length c] 25)).alloc (.cells (oC o) 27)).alloc (.cells #[.bool true, .int .i64 term, .bool false, .bool alone, .slice A ops.length c] 25)) #[.int .i64 0, .int .i64 0, .int .i64 0, .int .i64 0, .int .i64 0, .string ⟨#[]⟩, .string ⟨#[]⟩, .int .i64 0, .string ⟨#[]⟩, .slice none 0 0] 29; simpa using this
   have hW : Bel w ((((w.alloc (.cells #[.bool true, .int .i64 term, .bool false, .bool alone, .slice A ops.length c] 25)).alloc (.cells (oC o) 27)).alloc (.cells #[.bool true, .int .i64 term, .bool false, .bool alone, .slice A ops.length c] 25)).alloc (.cells #[.int .i64 0, .int .i64 0, .int .i64 0, .int .i64 0, .int .i64 0, .string ⟨#[]⟩, .string ⟨#[]⟩, .int .i64 0, .string ⟨#[]⟩, .slice none 0 0] 29)) := bel_alloc (bel_alloc (bel_alloc (bel_alloc (Below.refl _ _) _) _) _) _
   refine bodyPost_ret (results_list (rs := [.cell 6 25, .cell 7 29, .tmp 8]) rfl (by simp) (.cell (w.heap.size + 1 + 1) 25 #[.bool true, .int .i64 term, .bool false, .bool alone, .slice A ops.length c] (0, 0) _ rfl hR Tryz.underlying25 rfl (by kernel_rfl) (.cell (w.heap.size + 1 + 1 + 1) 29 #[.int .i64 0, .int .i64 0, .int .i64 0, .int .i64 0, .int .i64 0, .string ⟨#[]⟩, .string ⟨#[]⟩, .int .i64 0, .string ⟨#[]⟩, .slice none 0 0] (0, 0) _ rfl hM Tryz.underlying29 rfl (by kernel_rfl) (.tmp .nil)))) rfl ?_
   exact ⟨_, rfl, HT.out.bel hW, grown_of_bel hW _, .inl rfl, fun _ => rfl⟩
  | true =>
   go_enter Tryz.func138, Tryz.ntmps138
   go_wp2_with fail
   have hN : Blk ((((w.alloc (.cells #[.bool true, .int .i64 term, .bool true, .bool alone, .slice A ops.length c] 25)).alloc (.cells (oC o) 27)).alloc (.cells zN_ 25)).alloc (.cells #[.int .i64 0, .int .i64 0, .int .i64 0, .int .i64 0, .int .i64 0, .string ⟨#[]⟩, .string ⟨#[]⟩, .int .i64 0, .string ⟨#[]⟩, .slice none 0 0] 29)) w.heap.size #[.bool true, .int .i64 term, .bool true, .bool alone, .slice A ops.length c] 25 := (((Blk.new _ _ _).alloc _).alloc _).alloc _
   have hP : Blk ((((w.alloc (.cells #[.bool true, .int .i64 term, .bool true, .bool alone, .slice A ops.length c] 25)).alloc (.cells (oC o) 27)).alloc (.cells zN_ 25)).alloc (.cells #[.int .i64 0, .int .i64 0, .int .i64 0, .int .i64 0, .int .i64 0, .string ⟨#[]⟩, .string ⟨#[]⟩, .int .i64 0, .string ⟨#[]⟩, .slice none 0 0] 29)) (w.heap.size + 1) (oC o) 27 := ((Blk.nw2 w _ _ _).alloc _).alloc _
   have hR : Blk ((((w.alloc (.cells #[.bool true, .int .i64 term, .bool true, .bool alone, .slice A ops.length c] 25)).alloc (.cells (oC o) 27)).alloc (.cells zN_ 25)).alloc (.cells #[.int .i64 0, .int .i64 0, .int .i64 0, .int .i64 0, .int .i64 0, .string ⟨#[]⟩, .string ⟨#[]⟩, .int .i64 0, .string ⟨#[]⟩, .slice none 0 0] 29)) (w.heap.size + 1 + 1) zN_ 25 := by have := Blk.new ((w.alloc (.cells #[.bool true, .int .i64 term, .bool true, .bool alone, .slice A ops.length c] 25)).alloc (.cells (oC o) 27)) zN_ 25; simpa using this.alloc _
   have hM : Blk ((((w.alloc (.cells #[.bool true, .int .i64 term, .bool true, .bool alone, .slice A ops.length c] 25)).alloc (.cells (oC o) 27)).alloc (.cells zN_ 25)).alloc (.cells #[.int .i64 0, .int .i64 0, .int .i64 0, .int .i64 0, .int .i64 0, .string ⟨#[]⟩, .string ⟨#[]⟩, .int .i64 0, .string ⟨#[]⟩, .slice none 0 0] 29)) (w.heap.size + 1 + 1 + 1) #[.int .i64 0, .int .i64 0, .int .i64 0, .int .i64 0, .int .i64 0, .string ⟨#[]⟩, .string ⟨#[]⟩, .int .i64 0, .string ⟨#[]⟩, .slice none 0 0] 29 := by have := Blk.new (((w.alloc (.cells #[.bool true, .int .i64 term, .bool true, .bool alone, .slice A ops.length c] 25)).alloc (.cells (oC o) 27)).alloc (.cells zN_ 25)) #[.int .i64 0, .int .i64 0, .int .i64 0, .int .i64 0, .int .i64 0, .string ⟨#[]⟩, .string ⟨#[]⟩, .int .i64 0, .string ⟨#[]⟩, .slice none 0 0] 29; simpa using this
   have hW : Bel w ((((w.alloc (.cells #[.bool true, .int .i64 term, .bool true, .bool alone, .slice A ops.length c] 25)).alloc (.cells (oC o) 27)).alloc (.cells zN_ 25)).alloc (.cells #[.int .i64 0, .int .i64 0, .int .i64 0, .int .i64 0, .int .i64 0, .string ⟨#[]⟩, .string ⟨#[]⟩, .int .i64 0, .string ⟨#[]⟩, .slice none 0 0] 29)) := bel_alloc (bel_alloc (bel_alloc (bel_alloc (Below.refl _ _) _) _) _) _
   generalize ((((w.alloc (.cells #[.bool true, .int .i64 term, .bool true, .bool alone, .slice A ops.length c] 25)).alloc (.cells (oC o) 27)).alloc (.cells zN_ 25)).alloc (.cells #[.int .i64 0, .int .i64 0, .int .i64 0, .int .i64 0, .int .i64 0, .string ⟨#[]⟩, .string ⟨#[]⟩, .int .i64 0, .string ⟨#[]⟩, .slice none 0 0] 29)) = W0 at hN hP hR hM hW ⊢
   have hT0 := HT.out.bel hW
   have HN := Lib.hid hN
   have HP := Lib.hid hP
   have HRS := Lib.hid hR
   have HM := Lib.hid hM
   have HW := Lib.hid hW
   have HT0 := Lib.hid hT0
   have hadd := l21Add_c (n := ⟨true, term, true, alone, ops⟩) (o := o) hT0 (Nat.le_trans HBS.out hW.size) HO.out HSO.out HRX.out
   have hzz : addNB ⟨true, term, true, alone, ops⟩ o = z := HZ.out
   obtain ⟨xa, hxa⟩ : ∃ x, addN ⟨true, term, true, alone, ops⟩ o = x := ⟨_, rfl⟩
   have hxa2 : xa = xn := by rw [← HXN.out, ← hzz, ← hxa]; rfl
   subst hxa2
   rw [hzz, hxa] at hadd
   clear hN hP hR hM hW hT0 hzz hxa HZ
   refine hadd.mono ?_
   rintro e w1 ⟨v, rfl, hv, hg, hat, hvf⟩
   have HN1 := Lib.hid (HN.out.grown hg (blk_otherT HT0.out HN.out (by decide)))
   have HP1 := Lib.hid (HP.out.grown hg (fun e => by have := (HT.out.base _ e.symm).2.1; omega))
   have HR1 := Lib.hid (HRS.out.grown hg (blk_otherT HT0.out HRS.out (by decide)))
   have HM1 := Lib.hid (HM.out.grown hg (blk_otherT HT0.out HM.out (by decide)))
   have HG1 := Lib.hid (grown_tr (grown_of_bel HW.out (Value.slice A ops.length c).ownBlock) hg)
   have HAT := Lib.hid (show v.ownBlock = (Value.slice A ops.length c).ownBlock ∨ ∃ b, v.ownBlock = some b ∧ w.heap.size ≤ b from hat.imp (fun h => h) (fun ⟨b, h1, h2⟩ => ⟨b, h1, Nat.le_trans HW.out.size h2⟩))
   have HV1 := Lib.hid hv
   clear hg hat hadd hv
   cases z with
   | false =>
    have hxn := HXN.out
    have hxm := HXM.out
    have hv := hvf rfl
    subst hv
    subst hxm
    clear hvf HXM HXN
    obtain rfl : (⟨true, term, true, alone, ops⟩ : Node) = xa := hxn
    have hn_ := HN1.out
    have hr_ := HR1.out
    have hm_ := HM1.out
    have hp_ := HP1.out
    obtain ⟨n0, n1, n2, n3, n4, -⟩ := k5c hn_
    obtain ⟨p0, p1, p2, p3, p4, -⟩ := k5c hp_
    obtain ⟨r0, r1, r2, r3, r4, -⟩ := k5c hr_
    obtain ⟨m0, m1, m2, m3, m4, m5, m6, m7, m8, m9, -⟩ := k10c hm_
    have rf0 := hr_.free 0
    have rf1 := hr_.free 1
    have rf2 := hr_.free 2
    have rf3 := hr_.free 3
    have rf4 := hr_.free 4
    have mf0 := hm_.free 0
    have mf1 := hm_.free 1
    have mf2 := hm_.free 2
    have mf3 := hm_.free 3
    have mf4 := hm_.free 4
    have mf5 := hm_.free 5
    have mf6 := hm_.free 6
    have mf7 := hm_.free 7
    have mf8 := hm_.free 8
    have mf9 := hm_.free 9
    have ny := hn_.lt
    have ry := hr_.lt
    have my := hm_.lt
    have py := hp_.lt
    go_wp2
    have hr2 := hr_.sets [.bool true, .int .i64 term, .bool true, .bool alone, .slice A ops.length c] rfl
    have hm2 := Blk.apartS (show w.heap.size + 1 + 1 ≠ w.heap.size + 1 + 1 + 1 by omega) [.bool true, .int .i64 term, .bool true, .bool alone, .slice A ops.length c] 0 hm_
    have hm3 := hm2.sets [.int .i64 0, .int .i64 0, .int .i64 0, .int .i64 0, .int .i64 0, .string ⟨#[]⟩, .string ⟨#[]⟩, .int .i64 0, .string ⟨#[]⟩, .slice none 0 0] rfl
    have hr3 := Blk.apartS (show w.heap.size + 1 + 1 + 1 ≠ w.heap.size + 1 + 1 by omega) [.int .i64 0, .int .i64 0, .int .i64 0, .int .i64 0, .int .i64 0, .string ⟨#[]⟩, .string ⟨#[]⟩, .int .i64 0, .string ⟨#[]⟩, .slice none 0 0] 0 hr2
    have hT3 := (HV1.out.sets hr_ (by decide) [.bool true, .int .i64 term, .bool true, .bool alone, .slice A ops.length c]).sets hm2 (by decide) [.int .i64 0, .int .i64 0, .int .i64 0, .int .i64 0, .int .i64 0, .string ⟨#[]⟩, .string ⟨#[]⟩, .int .i64 0, .string ⟨#[]⟩, .slice none 0 0]
    have hg3 := grown_sets (show w.heap.size ≤ w.heap.size + 1 + 1 + 1 by omega) [.int .i64 0, .int .i64 0, .int .i64 0, .int .i64 0, .int .i64 0, .string ⟨#[]⟩, .string ⟨#[]⟩, .int .i64 0, .string ⟨#[]⟩, .slice none 0 0] 0 (grown_sets (show w.heap.size ≤ w.heap.size + 1 + 1 by omega) [.bool true, .int .i64 term, .bool true, .bool alone, .slice A ops.length c] 0 HG1.out)
    refine bodyPost_ret (results_list (rs := [.cell 6 25, .cell 7 29, .tmp 8]) rfl (by simp) (.cell (w.heap.size + 1 + 1) 25 #[.bool true, .int .i64 term, .bool true, .bool alone, .slice A ops.length c] (0, 0) _ rfl (hr3.alloc _) Tryz.underlying25 rfl (by kernel_rfl) (.cell (w.heap.size + 1 + 1 + 1) 29 #[.int .i64 0, .int .i64 0, .int .i64 0, .int .i64 0, .int .i64 0, .string ⟨#[]⟩, .string ⟨#[]⟩, .int .i64 0, .string ⟨#[]⟩, .slice none 0 0] (0, 0) _ rfl (hm3.alloc _) Tryz.underlying29 rfl (by kernel_rfl) (.tmp .nil)))) rfl ?_
    exact ⟨_, rfl, hT3.bel (bel_alloc (Below.refl _ _) _), grown_tr hg3 (grown_of_bel (bel_alloc (Below.refl _ _) _) _), .inl rfl, fun _ => rfl⟩
   | true =>
    have hxn := HXN.out
    have hxm := HXM.out
    obtain ⟨C4, c4, rfl, hc4, hC4⟩ := HV1.out.reads
    subst hxm
    clear hvf HXM HXN hc4 hC4
    obtain rfl : (⟨true, term, true, alone, ops ++ [o]⟩ : Node) = xa := hxn
    obtain ⟨no, hno⟩ : ∃ no, ops ++ [o] = no := ⟨_, rfl⟩
    rw [hno] at HV1 HAT ⊢
    have HNO := Lib.hid hno
    clear hno
    have hn_ := HN1.out
    have hr_ := HR1.out
    have hm_ := HM1.out
    have hp_ := HP1.out
    obtain ⟨n0, n1, n2, n3, n4, -⟩ := k5c hn_
    obtain ⟨p0, p1, p2, p3, p4, -⟩ := k5c hp_
    obtain ⟨r0, r1, r2, r3, r4, -⟩ := k5c hr_
    obtain ⟨m0, m1, m2, m3, m4, m5, m6, m7, m8, m9, -⟩ := k10c hm_
    have rf0 := hr_.free 0
    have rf1 := hr_.free 1
    have rf2 := hr_.free 2
    have rf3 := hr_.free 3
    have rf4 := hr_.free 4
    have mf0 := hm_.free 0
    have mf1 := hm_.free 1
    have mf2 := hm_.free 2
    have mf3 := hm_.free 3
    have mf4 := hm_.free 4
    have mf5 := hm_.free 5
    have mf6 := hm_.free 6
    have mf7 := hm_.free 7
    have mf8 := hm_.free 8
    have mf9 := hm_.free 9
    have ny := hn_.lt
    have ry := hr_.lt
    have my := hm_.lt
    have py := hp_.lt
    go_wp2
    have hB2 : Blk (w1.alloc (.cells #[.bool true, .int .i64 term, .bool true, .bool alone, .slice C4 no.length c4] 25)) w1.heap.size #[.bool true, .int .i64 term, .bool true, .bool alone, .slice C4 no.length c4] 25 := Blk.new _ _ _
    have hbx : Bel w1 (w1.alloc (.cells #[.bool true, .int .i64 term, .bool true, .bool alone, .slice C4 no.length c4] 25)) := bel_alloc (Below.refl _ _) _
    have hP2 := hp_.bel hbx
    have hR2 := hr_.bel hbx
    have hM2 := hm_.bel hbx
    have HV2 := Lib.hid (HV1.out.bel hbx)
    have HG2 := Lib.hid (grown_tr HG1.out (grown_of_bel hbx _))
    have hnb1 : w.heap.size + 1 + 1 < w1.heap.size := ry
    have hnb2 : w.heap.size + 1 + 1 + 1 < w1.heap.size := my
    clear n0 n1 n2 n3 n4 p0 p1 p2 p3 p4 r0 r1 r2 r3 r4 m0 m1 m2 m3 m4 m5 m6 m7 m8 m9 rf0 rf1 rf2 rf3 rf4 mf0 mf1 mf2 mf3 mf4 mf5 mf6 mf7 mf8 mf9 ny ry my py hn_ hr_ hm_ hp_
    generalize (w1.alloc (.cells #[.bool true, .int .i64 term, .bool true, .bool alone, .slice C4 no.length c4] 25)) = W2 at hB2 hbx hP2 hR2 hM2 HV2 HG2 ⊢
    obtain ⟨nb, hnb⟩ : ∃ nb, w1.heap.size = nb := ⟨_, rfl⟩
    rw [hnb] at hB2 hnb1 hnb2 ⊢
    clear hnb
    have HB3 := Lib.hid hB2
    have HP3 := Lib.hid hP2
    have HR3 := Lib.hid hR2
    have HM3 := Lib.hid hM2
    have HV3 := HV2
    have HG3 := HG2
    clear hB2 hbx hP2 hR2 hM2 HV2 HG2 HN1 HP1 HR1 HM1 HV1 HG1
    have HLE_ := Lib.hid (show (no.length : Int) = ops.length + 1 by rw [← HNO.out, List.length_append]; rfl)
    have hlen : (no.length : Int) ≤ 1048577 := by have := HLE_.out; omega
    have hr_ := HR3.out
    have hm_ := HM3.out
    obtain ⟨r0, r1, r2, r3, r4, -⟩ := k5c hr_
    obtain ⟨m0, m1, m2, m3, m4, m5, m6, m7, m8, m9, -⟩ := k10c hm_
    have rf0 := hr_.free 0
    have rf1 := hr_.free 1
    have rf2 := hr_.free 2
    have rf3 := hr_.free 3
    have rf4 := hr_.free 4
    have mf0 := hm_.free 0
    have mf1 := hm_.free 1
    have mf2 := hm_.free 2
    have mf3 := hm_.free 3
    have mf4 := hm_.free 4
    have mf5 := hm_.free 5
    have mf6 := hm_.free 6
    have mf7 := hm_.free 7
    have mf8 := hm_.free 8
    have mf9 := hm_.free 9
    have ry := hr_.lt
    have my := hm_.lt
    have hne1 : w.heap.size + 1 + 1 ≠ nb := Nat.ne_of_lt hnb1
    have hne2 : w.heap.size + 1 + 1 ≠ w.heap.size + 1 := Nat.succ_ne_self _
    have hid3 : wrap64 (3 - id) = 3 - id := by have h3 := HID.out; unfold wrap64; omega
    refine start_ (n := 13) (S := fun w' => w'.cell? ⟨nb, 0, none⟩ = some (.bool true) ∧ w'.cell? ⟨nb, 1, none⟩ = some (.int .i64 term) ∧ w'.cell? ⟨nb, 2, none⟩ = some (.bool true) ∧ w'.cell? ⟨nb, 3, none⟩ = some (.bool alone) ∧ w'.cell? ⟨nb, 4, none⟩ = some (.slice C4 no.length c4) ∧ w'.cell? ⟨w.heap.size + 1, 0, none⟩ = some (.int .i64 o.kind) ∧ w'.cell? ⟨w.heap.size + 1, 1, none⟩ = some (.string o.name) ∧ w'.cell? ⟨w.heap.size + 1, 2, none⟩ = some (.string o.dest) ∧ w'.cell? ⟨w.heap.size + 1, 3, none⟩ = some (.int .i64 o.n) ∧ w'.cell? ⟨w.heap.size + 1, 4, none⟩ = some (.string o.text)) (ds := [11]) #[F, F, F, F, F, F, F, F, F, F, F, F, F] (by kernel_rfl) rfl rfl ⟨(blkn (HB3.out.bel (Below.refl _ _).drew) 0 _ rfl), (blkn (HB3.out.bel (Below.refl _ _).drew) 1 _ rfl), (blkn (HB3.out.bel (Below.refl _ _).drew) 2 _ rfl), (blkn (HB3.out.bel (Below.refl _ _).drew) 3 _ rfl), (blkn (HB3.out.bel (Below.refl _ _).drew) 4 _ rfl), (blkn (HP3.out.bel (Below.refl _ _).drew) 0 _ rfl), (blkn (HP3.out.bel (Below.refl _ _).drew) 1 _ rfl), (blkn (HP3.out.bel (Below.refl _ _).drew) 2 _ rfl), (blkn (HP3.out.bel (Below.refl _ _).drew) 3 _ rfl), (blkn (HP3.out.bel (Below.refl _ _).drew) 4 _ rfl)⟩ (fun hHeld => ?_)
    refine py 1 (some 32) #[F, T, F, F, F, F, F, F, F, F, F, F, F] ?_
    refine py 2 (some 33) #[F, T, T, F, F, F, F, F, F, F, F, F, F] ?_
    refine py 3 (some 34) #[F, T, T, T, F, F, F, F, F, F, F, F, F] ?_
    refine py 5 (some 36) #[F, T, T, T, F, T, F, F, F, F, F, F, F] ?_
    refine ty 0 (some 31) #[T, T, T, T, F, T, F, F, F, F, F, F, F] (hS := hHeld) (hz := by rintro w' ⟨s0, s1, s2, s3, s4, s5, s6, s7, s8, s9⟩; go_simp; with_reducible rfl) (h := ?_)
    refine ty 4 (some 35) #[T, T, T, T, T, T, F, F, F, F, F, F, F] (hS := hHeld) (hz := by rintro w' ⟨s0, s1, s2, s3, s4, s5, s6, s7, s8, s9⟩; go_simp; with_reducible rfl) (h := ?_)
    refine ty 6 (some 37) #[T, T, T, T, T, T, T, F, F, F, F, F, F] (hS := hHeld) (hz := by rintro w' ⟨s0, s1, s2, s3, s4, s5, s6, s7, s8, s9⟩; go_simp; with_reducible rfl) (h := ?_)
    refine py 7 (some 38) #[T, T, T, T, T, T, T, T, F, F, F, F, F] ?_
    refine ty 8 (some 39) #[T, T, T, T, T, T, T, T, T, F, F, F, F] (hS := hHeld) (hz := by rintro w' ⟨s0, s1, s2, s3, s4, s5, s6, s7, s8, s9⟩; go_simp; with_reducible rfl) (h := ?_)
    refine py 9 (some 40) #[T, T, T, T, T, T, T, T, T, T, F, F, F] ?_
    refine ox 10 none #[T, T, T, T, T, T, T, T, T, T, T, F, F] fun K hK => ?_
    refine sx ?_
    refine hK.out _ _ ⟨(blkn ((HB3.out.apart5 hne1 (.bool true) (.int .i64 term) (.bool true) (.bool alone) (.slice C4 no.length c4)).bel (Below.refl _ _).drew) 0 _ rfl), (blkn ((HB3.out.apart5 hne1 (.bool true) (.int .i64 term) (.bool true) (.bool alone) (.slice C4 no.length c4)).bel (Below.refl _ _).drew) 1 _ rfl), (blkn ((HB3.out.apart5 hne1 (.bool true) (.int .i64 term) (.bool true) (.bool alone) (.slice C4 no.length c4)).bel (Below.refl _ _).drew) 2 _ rfl), (blkn ((HB3.out.apart5 hne1 (.bool true) (.int .i64 term) (.bool true) (.bool alone) (.slice C4 no.length c4)).bel (Below.refl _ _).drew) 3 _ rfl), (blkn ((HB3.out.apart5 hne1 (.bool true) (.int .i64 term) (.bool true) (.bool alone) (.slice C4 no.length c4)).bel (Below.refl _ _).drew) 4 _ rfl), (blkn ((HP3.out.apart5 hne2 (.bool true) (.int .i64 term) (.bool true) (.bool alone) (.slice C4 no.length c4)).bel (Below.refl _ _).drew) 0 _ rfl), (blkn ((HP3.out.apart5 hne2 (.bool true) (.int .i64 term) (.bool true) (.bool alone) (.slice C4 no.length c4)).bel (Below.refl _ _).drew) 1 _ rfl), (blkn ((HP3.out.apart5 hne2 (.bool true) (.int .i64 term) (.bool true) (.bool alone) (.slice C4 no.length c4)).bel (Below.refl _ _).drew) 2 _ rfl), (blkn ((HP3.out.apart5 hne2 (.bool true) (.int .i64 term) (.bool true) (.bool alone) (.slice C4 no.length c4)).bel (Below.refl _ _).drew) 3 _ rfl), (blkn ((HP3.out.apart5 hne2 (.bool true) (.int .i64 term) (.bool true) (.bool alone) (.slice C4 no.length c4)).bel (Below.refl _ _).drew) 4 _ rfl)⟩ (fun hHeld => ?_)
    clear hK K
    refine lx 11 none #[T, T, T, T, T, T, T, T, T, T, T, T, F] fun K hK => ?_
    refine sx ?_
    refine hK.out _ _ ?_
    clear hK K
    refine py 12 (some 8) #[T, T, T, T, T, T, T, T, T, T, T, T, T] ?_
    refine done_ (by kernel_rfl) ?_
    go_wp2
    have hr2 := hr_.sets [.bool true, .int .i64 term, .bool true, .bool alone, .slice C4 no.length c4] rfl
    have hm2 := Blk.apartS (show w.heap.size + 1 + 1 ≠ w.heap.size + 1 + 1 + 1 by omega) [.bool true, .int .i64 term, .bool true, .bool alone, .slice C4 no.length c4] 0 hm_
    have hm3 := hm2.sets [.int .i64 1, .int .i64 (3 - id), .int .i64 term, .int .i64 no.length, .int .i64 o.kind, .string o.name, .string o.dest, .int .i64 o.n, .string o.text, .slice none 0 0] rfl
    have hr3 := Blk.apartS (show w.heap.size + 1 + 1 + 1 ≠ w.heap.size + 1 + 1 by omega) [.int .i64 1, .int .i64 (3 - id), .int .i64 term, .int .i64 no.length, .int .i64 o.kind, .string o.name, .string o.dest, .int .i64 o.n, .string o.text, .slice none 0 0] 0 hr2
    have hT3 := (HV3.out.sets hr_ (by decide) [.bool true, .int .i64 term, .bool true, .bool alone, .slice C4 no.length c4]).sets hm2 (by decide) [.int .i64 1, .int .i64 (3 - id), .int .i64 term, .int .i64 no.length, .int .i64 o.kind, .string o.name, .string o.dest, .int .i64 o.n, .string o.text, .slice none 0 0]
    have hg3 := grown_sets (show w.heap.size ≤ w.heap.size + 1 + 1 + 1 by omega) [.int .i64 1, .int .i64 (3 - id), .int .i64 term, .int .i64 no.length, .int .i64 o.kind, .string o.name, .string o.dest, .int .i64 o.n, .string o.text, .slice none 0 0] 0 (grown_sets (show w.heap.size ≤ w.heap.size + 1 + 1 by omega) [.bool true, .int .i64 term, .bool true, .bool alone, .slice C4 no.length c4] 0 HG3.out)
    have hdd : Bel (wsets (wsets W2 (w.heap.size + 1 + 1) 0 [.bool true, .int .i64 term, .bool true, .bool alone, .slice C4 no.length c4]) (w.heap.size + 1 + 1 + 1) 0 [.int .i64 1, .int .i64 (3 - id), .int .i64 term, .int .i64 no.length, .int .i64 o.kind, .string o.name, .string o.dest, .int .i64 o.n, .string o.text, .slice none 0 0]) (wsets (wsets W2 (w.heap.size + 1 + 1) 0 [.bool true, .int .i64 term, .bool true, .bool alone, .slice C4 no.length c4]) (w.heap.size + 1 + 1 + 1) 0 [.int .i64 1, .int .i64 (3 - id), .int .i64 term, .int .i64 no.length, .int .i64 o.kind, .string o.name, .string o.dest, .int .i64 o.n, .string o.text, .slice none 0 0]).drew := (Below.refl _ _).drew
    refine bodyPost_ret (results_list (rs := [.cell 6 25, .cell 7 29, .tmp 8]) rfl (by simp) (.cell (w.heap.size + 1 + 1) 25 #[.bool true, .int .i64 term, .bool true, .bool alone, .slice C4 no.length c4] (0, 0) _ rfl (hr3.bel hdd) Tryz.underlying25 rfl (by kernel_rfl) (.cell (w.heap.size + 1 + 1 + 1) 29 #[.int .i64 1, .int .i64 (3 - id), .int .i64 term, .int .i64 no.length, .int .i64 o.kind, .string o.name, .string o.dest, .int .i64 o.n, .string o.text, .slice none 0 0] (0, 0) _ rfl (hm3.bel hdd) Tryz.underlying29 rfl (by kernel_rfl) (.tmp .nil)))) rfl ?_
    have hnoo := HNO.out
    have hlnn := HLE_.out
    clear HNO HLE_
    subst hnoo
    exact ⟨_, (by rw [hlnn]; rfl), hT3.bel hdd, grown_tr hg3 (grown_of_bel hdd _), HAT.out, fun h => by cases h⟩
end
def askRB (n : Node) (id : Int) (o : Op) : Bool := (nodeOk n && inR id 1 2) && askB n o
def askRN (n : Node) (id : Int) (o : Op) : Node := if nodeOk n && inR id 1 2 then askN n o else noN
def askRM (n : Node) (id : Int) (o : Op) : Msg := if nodeOk n && inR id 1 2 then askM n id o else noM
theorem inR12 {id : Int} (h : inR id 1 2 = true) : id = 1 ∨ id = 2 := by
 unfold inR at h; simp at h; omega
def AnsT (w : World) (n : Node) (m : Msg) (ok : Bool) (e : Ending) (w' : World) : Prop :=
 ∃ v, e = .returned (.tuple #[.agg #[.bool n.up, .int .i64 n.term, .bool n.leads, .bool n.alone, v], .agg #[.int .i64 m.kind, .int .i64 m.whom, .int .i64 m.term, .int .i64 m.n, .int .i64 m.op.kind, .string m.op.name, .string m.op.dest, .int .i64 m.op.n, .string m.op.text, .slice none 0 0], .bool ok]) ∧ OwnT w' w.heap.size v n.ops ∧ Bel w w'
def AnsO (w : World) (n : Node) (m : Msg) (ok : Bool) (e : Ending) (w' : World) : Prop :=
 ∃ v, e = .returned (.tuple #[.agg #[.bool n.up, .int .i64 n.term, .bool n.leads, .bool n.alone, v], .agg #[.int .i64 m.kind, .int .i64 m.whom, .int .i64 m.term, .int .i64 m.n, .int .i64 m.op.kind, .string m.op.name, .string m.op.dest, .int .i64 m.op.n, .string m.op.text, .slice none 0 0], .bool ok]) ∧ OwnO w' w.heap.size v n.ops ∧ Bel w w'
theorem ownO_nil (w : World) (base : Nat) : OwnO w base (.slice none 0 0) [] := World.ownsRow_nil _ _ _ _
theorem ownT_nil (w : World) (base : Nat) : OwnT w base (.slice none 0 0) [] := OwnO.tail (ownO_nil w base)
section
variable {w : World} {A : Option Addr} {c : Nat} {n : Node} {id : Int} {o : Op}
end
theorem OwnO.setsN {base b : Nat} {v : Value} {os : List Op} (hne : v.ownBlock = none ∨ v.ownBlock ≠ some b) (vs : List Value) : ∀ {W : World} (j : Nat), OwnO W base v os → OwnO (wsets W b j vs) base v os := by
 induction vs with
 | nil => intro W j h; exact h
 | cons u vs ih =>
  intro W j h
  have hg : W.grownBy (W.setCell ⟨b, j, none⟩ u) (some b) := ⟨rfl, rfl, rfl, by simp, fun k hk hne => by
   have : b ≠ k := fun e => hne (by rw [e])
   simp [World.setCell, Array.getElem?_modify, this]⟩
  exact ih _ (h.kept hg hne)
theorem OwnO.sets {W : World} {base b : Nat} {v : Value} {os : List Op} {cs : Array Value} {t : TypeId} (h : OwnO W base v os) (hB : Blk W b cs t) (ht : 27 ≠ t) (vs : List Value) : OwnO (wsets W b 0 vs) base v os :=
 OwnO.setsN (.inr fun e => own_ne h hB ht e.symm) vs 0 h
section
variable {w : World} {A : Option Addr} {c : Nat} {up leads alone : Bool} {term id : Int} {ops : List Op} {o : Op}
end
section
variable {w : World} {A A' : Option Addr} {c c' : Nat} {n : Node} {m : Msg}
def MarkT (k : Int) (w : World) (base : Nat) (v : Value) (n : Nat) (w' : World) : Prop := (∃ s, s.length = n ∧ OwnO w' base v s ∧ MkO k s) ∧ w.grownBy w' v.ownBlock
end
structure AtT (w : World) (lo hi : Nat) (v : Value) (s : List Op) : Prop where
  own : OwnT w lo v s
  lt : ∀ k, v.ownBlock = some k → k < hi
theorem AtT.bel {w w' : World} {lo hi : Nat} {v : Value} {s : List Op} (h : AtT w lo hi v s) (hb : Bel w w') : AtT w' lo hi v s := ⟨h.own.bel hb, h.lt⟩
theorem AtT.kept {w w' : World} {lo hi : Nat} {v : Value} {s : List Op} {r : Option Nat} (h : AtT w lo hi v s) (hg : w.grownBy w' r) (hr : ∀ k, r = some k → k < lo ∨ hi ≤ k) : AtT w' lo hi v s :=
 ⟨h.own.kept hg fun k hk e => by have h1 := (h.own.base k hk).1; have h2 := h.lt k hk; rcases hr k e with h3 | h3 <;> omega, h.lt⟩
theorem AtT.grown {w w' : World} {lo hi : Nat} {v : Value} {s : List Op} (h : AtT w lo hi v s) (hg : w.grownBy w' v.ownBlock) : Within lo hi w w' :=
 ⟨hg.os, hg.tape, hg.output, hg.size, fun k hk hn => hg.block k hk (fun e => hn ⟨(h.own.base k e.symm).1, h.lt k e.symm⟩)⟩
theorem AtT.inn {w : World} {lo hi : Nat} {A : Option Addr} {c : Nat} {s : List Op} {v : Value} (h : AtT w lo hi v s) (hv : v = .slice A s.length c) : kOp.C w A s.length s := by
 obtain ⟨A', c', e, -, hC⟩ := h.own.reads
 have e := slice_eq (hv.symm.trans e)
 obtain ⟨rfl, -, rfl⟩ := e
 exact hC
structure Two (wc W' : World) (n1 n2 : Nat) (v1 v2 : List Value) (t1 t2 : TypeId) : Prop where
  b1 : Blk W' n1 v1.toArray t1
  b2 : Blk W' n2 v2.toArray t2
  oth : ∀ {b : Nat} {cs : Array Value} {t : TypeId}, Blk wc b cs t → n1 ≠ b → n2 ≠ b → Blk W' b cs t
  ownT : ∀ {base : Nat} {v : Value} {os : List Op}, OwnT wc base v os → OwnT W' base v os
  ownO : ∀ {base : Nat} {v : Value} {os : List Op}, OwnO wc base v os → OwnO W' base v os
  bel : ∀ {w : World}, Bel w wc → w.heap.size ≤ n1 → w.heap.size ≤ n2 → Bel w W'
  grown : ∀ {w : World} {r : Option Nat}, w.grownBy wc r → w.heap.size ≤ n1 → w.heap.size ≤ n2 → w.grownBy W' r
  size : W'.heap.size = wc.heap.size
theorem wsets_size (b : Nat) (vs : List Value) : ∀ (W : World) (j : Nat), (wsets W b j vs).heap.size = W.heap.size := by
 induction vs with
 | nil => intro W j; rfl
 | cons v vs ih => intro W j; exact (ih _ _).trans (by simp)
theorem two_new {wc W' : World} {n1 n2 : Nat} {v1 v2 : List Value} {t1 t2 : TypeId} {c1 c2 : Array Value} (hW : wsets (wsets wc n1 0 v1) n2 0 v2 = W') (h1 : Blk wc n1 c1 t1) (h2 : Blk wc n2 c2 t2) (hne : n1 ≠ n2)
  (hl1 : c1.size = v1.length) (hl2 : c2.size = v2.length) (ht1 : 27 ≠ t1) (ht2 : 27 ≠ t2) : Two wc W' n1 n2 v1 v2 t1 t2 := by
 subst hW
 have h2' := Blk.apartS hne v1 0 h2
 exact ⟨Blk.apartS (fun e => hne e.symm) v2 0 (h1.sets v1 hl1), h2'.sets v2 hl2, fun h e1 e2 => Blk.apartS e2 v2 0 (Blk.apartS e1 v1 0 h), fun h => (h.sets h1 ht1 v1).sets h2' ht2 v2, fun h => (h.sets h1 ht1 v1).sets h2' ht2 v2,
  fun h e1 e2 => bel_sets e2 v2 0 (bel_sets e1 v1 0 h), fun h e1 e2 => grown_sets e2 v2 0 (grown_sets e1 v1 0 h), by rw [wsets_size, wsets_size]⟩
theorem bel_drew {W : World} : Bel W W.drew := (Below.refl _ _).drew
def isZ (o : Op) : Bool := decide (o.kind = 0) && (decide (o.name.toList = []) && (decide (o.dest.toList = []) && (decide (o.n = 0) && decide (o.text.toList = []))))
def msgK (kind n : Int) (op : Op) (ops : List Op) : Bool :=
 if kind = 1 then opOk op && (decide (1 ≤ n) && decide (ops.length = 0))
 else if kind = 2 ∨ kind = 4 then isZ op && decide (ops.length = 0)
 else if kind = 3 then isZ op && (decide ((ops.length : Int) = n) && (runP newP ops).isSome)
 else false
def msgOk (m : Msg) : Bool := inR m.whom 1 2 && (inR m.term 0 99 && (inR m.n 0 20 && msgK m.kind m.n m.op m.ops))
section
variable {w : World} {A : Option Addr} {c : Nat} {kind whom term n : Int} {op : Op} {ops : List Op}
end
def opEqB (x y : Op) : Bool := decide (x.kind = y.kind) && (decide (x.name.toList = y.name.toList) && (decide (x.dest.toList = y.dest.toList) && (decide (x.n = y.n) && decide (x.text.toList = y.text.toList))))
theorem opEq_ifs {x op : Op} {z : Bool} (h : opEqB x op = z) (w' : World) :
  (if x.kind = op.kind then if x.name.toList = op.name.toList then if x.dest.toList = op.dest.toList then if x.n = op.n then if x.text.toList = op.text.toList then Result.ok (Next.value (Value.bool true)) w'
   else Result.ok (Next.value (Value.bool false)) w' else Result.ok (Next.value (Value.bool false)) w' else Result.ok (Next.value (Value.bool false)) w' else Result.ok (Next.value (Value.bool false)) w' else Result.ok (Next.value (Value.bool false)) w') = Result.ok (Next.value (Value.bool z)) w' := by
 subst h
 unfold opEqB
 by_cases h1 : x.kind = op.kind <;> by_cases h2 : x.name.toList = op.name.toList <;> by_cases h3 : x.dest.toList = op.dest.toList <;> by_cases h4 : x.n = op.n <;> by_cases h5 : x.text.toList = op.text.toList <;> simp [h1, h2, h3, h4, h5]
def copN (n : Node) (mt mn : Int) (op : Op) : Node := if mt ≠ n.term ∨ n.leads = true then n else if mn ≤ n.ops.length then n else if (n.ops.length : Int) + 1 < mn then n else addN n op
def copB (n : Node) (mt mn : Int) (op : Op) : Bool := if mt ≠ n.term ∨ n.leads = true then false else if mn ≤ n.ops.length then opEqB (n.ops.getD (mn - 1).toNat noO) op else if (n.ops.length : Int) + 1 < mn then false else addNB n op
def hasM (n : Node) (id mn : Int) : Msg := ⟨2, 3 - id, n.term, mn, noO, []⟩
def copM (n : Node) (id mt mn : Int) : Msg := if mt ≠ n.term ∨ n.leads = true then noM else if mn ≤ n.ops.length then hasM n id mn else if (n.ops.length : Int) + 1 < mn then noM else hasM n id mn
theorem op_cells {w : World} {ad : Addr} {n : Nat} {xs : List Op} (h : kOp.C w (some ad) n xs) {i : Nat} {x : Op} (hx : xs[i]? = some x) : w.cell? (ad.add (i * 5)) = some (.int .i64 x.kind) ∧ w.cell? ⟨(ad.add (i * 5)).block, (ad.add (i * 5)).off + 1, none⟩ = some (.string x.name) ∧ w.cell? ⟨(ad.add (i * 5)).block, (ad.add (i * 5)).off + 2, none⟩ = some (.string x.dest) ∧ w.cell? ⟨(ad.add (i * 5)).block, (ad.add (i * 5)).off + 3, none⟩ = some (.int .i64 x.n) ∧ w.cell? ⟨(ad.add (i * 5)).block, (ad.add (i * 5)).off + 4, none⟩ = some (.string x.text) := by
 obtain ⟨ad', e, h5⟩ := at_op h hx
 cases e
 exact h5
theorem OwnT.reads2 {w : World} {base : Nat} {A : Option Addr} {c : Nat} {os : List Op} (h : OwnT w base (.slice A os.length c) os) : kOp.C w A os.length os := by obtain ⟨A', c', e, _, hC⟩ := h.reads; have e := slice_eq e; obtain ⟨rfl, -, rfl⟩ := e; exact hC
theorem allocs5 (w : World) (c0 c1 c2 c3 c4 : Array Value) (t0 t1 t2 t3 t4 : TypeId) :
  Bel w (((((w.alloc (.cells c0 t0)).alloc (.cells c1 t1)).alloc (.cells c2 t2)).alloc (.cells c3 t3)).alloc (.cells c4 t4)) ∧
  Blk (((((w.alloc (.cells c0 t0)).alloc (.cells c1 t1)).alloc (.cells c2 t2)).alloc (.cells c3 t3)).alloc (.cells c4 t4)) w.heap.size c0 t0 ∧
  Blk (((((w.alloc (.cells c0 t0)).alloc (.cells c1 t1)).alloc (.cells c2 t2)).alloc (.cells c3 t3)).alloc (.cells c4 t4)) (w.heap.size + 1) c1 t1 ∧
  Blk (((((w.alloc (.cells c0 t0)).alloc (.cells c1 t1)).alloc (.cells c2 t2)).alloc (.cells c3 t3)).alloc (.cells c4 t4)) (w.heap.size + 1 + 1) c2 t2 ∧
  Blk (((((w.alloc (.cells c0 t0)).alloc (.cells c1 t1)).alloc (.cells c2 t2)).alloc (.cells c3 t3)).alloc (.cells c4 t4)) (w.heap.size + 1 + 1 + 1) c3 t3 ∧
  Blk (((((w.alloc (.cells c0 t0)).alloc (.cells c1 t1)).alloc (.cells c2 t2)).alloc (.cells c3 t3)).alloc (.cells c4 t4)) (w.heap.size + 1 + 1 + 1 + 1) c4 t4 := by
 refine ⟨bel_alloc (bel_alloc (bel_alloc (bel_alloc (bel_alloc (Below.refl _ _) _) _) _) _) _, ((((Blk.new _ _ _).alloc _).alloc _).alloc _).alloc _, (((Blk.nw2 w _ _ _).alloc _).alloc _).alloc _, ?_, ?_, ?_⟩
 ·have := Blk.new ((w.alloc (.cells c0 t0)).alloc (.cells c1 t1)) c2 t2
  simpa using (this.alloc _).alloc _
 ·have := Blk.new (((w.alloc (.cells c0 t0)).alloc (.cells c1 t1)).alloc (.cells c2 t2)) c3 t3
  simpa using this.alloc _
 ·have := Blk.new ((((w.alloc (.cells c0 t0)).alloc (.cells c1 t1)).alloc (.cells c2 t2)).alloc (.cells c3 t3)) c4 t4
  simpa using this
section
variable {w : World} {A B : Option Addr} {c base bn bc : Nat} {up leads alone : Bool} {kind whom mt mn term id : Int} {ops : List Op} {op : Op}
theorem l21Copied_f {q : Pool} (h : OwnT w base (.slice A ops.length c) ops) (hbase : base ≤ w.heap.size) (ho : SmallOs ops) (hso : SmallO op) (hid : id = 1 ∨ id = 2) (hr : runP newP ops = some q) (hmn : 1 ≤ mn ∧ mn ≤ 20) :
  Calls Tryz.prog 80 #[.agg #[.bool up, .int .i64 term, .bool leads, .bool alone, .slice A ops.length c], .int .i64 id, .agg #[.int .i64 kind, .int .i64 whom, .int .i64 mt, .int .i64 mn, .int .i64 op.kind, .string op.name, .string op.dest, .int .i64 op.n, .string op.text, .slice B bn bc]] w (AskedN base w (copN ⟨up, term, leads, alone, ops⟩ mt mn op) (copM ⟨up, term, leads, alone, ops⟩ id mt mn) (.slice A ops.length c) (copB ⟨up, term, leads, alone, ops⟩ mt mn op)) := by
 have HT := Lib.hid h
 have HBS := Lib.hid hbase
 have HO := Lib.hid ho
 have HSO := Lib.hid hso
 have HRX := Lib.hid hr
 have HID := Lib.hid hid
 have HMN := Lib.hid hmn
 have hl9 := ho.len
 obtain ⟨z, hz⟩ : ∃ z, copB ⟨up, term, leads, alone, ops⟩ mt mn op = z := ⟨_, rfl⟩
 obtain ⟨xn, hxn⟩ : ∃ x, copN ⟨up, term, leads, alone, ops⟩ mt mn op = x := ⟨_, rfl⟩
 obtain ⟨xm, hxm⟩ : ∃ x, copM ⟨up, term, leads, alone, ops⟩ id mt mn = x := ⟨_, rfl⟩
 rw [hz, hxn, hxm]
 unfold copB at hz
 unfold copN at hxn
 unfold copM at hxm
 simp only at hz hxn hxm
 have hid3 : wrap64 (3 - id) = 3 - id := by have h3 := HID.out; unfold wrap64; omega
 have b1 := hmn.1
 have b2 := hmn.2
 clear h hbase ho hso hid hr hmn
 go_enter Tryz.func80, Tryz.ntmps80
 by_cases c1 : mt ≠ term ∨ leads = true
 ·rw [if_pos c1] at hz hxn hxm
  obtain rfl := hz
  obtain rfl := hxn
  obtain rfl := hxm
  have hcase : (mt = term ∧ leads = true) ∨ mt ≠ term := by by_cases e : mt = term <;> simp_all
  rcases hcase with ⟨rfl, rfl⟩ | hne
  ·go_wp2
   have hA := (allocs5 w #[.bool up, .int .i64 mt, .bool true, .bool alone, .slice A ops.length c] #[.int .i64 kind, .int .i64 whom, .int .i64 mt, .int .i64 mn, .int .i64 op.kind, .string op.name, .string op.dest, .int .i64 op.n, .string op.text, .slice B bn bc] #[.bool up, .int .i64 mt, .bool true, .bool alone, .slice A ops.length c] #[.int .i64 0, .int .i64 0, .int .i64 0, .int .i64 0, .int .i64 0, .string ⟨#[]⟩, .string ⟨#[]⟩, .int .i64 0, .string ⟨#[]⟩, .slice none 0 0] #[.int .i64 2, .int .i64 (3 - id), .int .i64 mt, .int .i64 mn, .int .i64 0, .string ⟨#[]⟩, .string ⟨#[]⟩, .int .i64 0, .string ⟨#[]⟩, .slice none 0 0] 25 29 25 29 29)
   refine bodyPost_ret (results_list (rs := [.cell 6 25, .cell 7 29, .tmp 8]) rfl (by simp) (.cell (w.heap.size + 1 + 1) 25 #[.bool up, .int .i64 mt, .bool true, .bool alone, .slice A ops.length c] (0, 0) _ rfl hA.2.2.2.1 Tryz.underlying25 rfl (by kernel_rfl) (.cell (w.heap.size + 1 + 1 + 1) 29 #[.int .i64 0, .int .i64 0, .int .i64 0, .int .i64 0, .int .i64 0, .string ⟨#[]⟩, .string ⟨#[]⟩, .int .i64 0, .string ⟨#[]⟩, .slice none 0 0] (0, 0) _ rfl hA.2.2.2.2.1 Tryz.underlying29 rfl (by kernel_rfl) (.tmp .nil)))) rfl ?_
   exact ⟨_, rfl, HT.out.bel hA.1, grown_of_bel hA.1 _, .inl rfl, fun _ => rfl⟩
  ·go_wp2
   have hA := (allocs5 w #[.bool up, .int .i64 term, .bool leads, .bool alone, .slice A ops.length c] #[.int .i64 kind, .int .i64 whom, .int .i64 mt, .int .i64 mn, .int .i64 op.kind, .string op.name, .string op.dest, .int .i64 op.n, .string op.text, .slice B bn bc] #[.bool up, .int .i64 term, .bool leads, .bool alone, .slice A ops.length c] #[.int .i64 0, .int .i64 0, .int .i64 0, .int .i64 0, .int .i64 0, .string ⟨#[]⟩, .string ⟨#[]⟩, .int .i64 0, .string ⟨#[]⟩, .slice none 0 0] #[.int .i64 2, .int .i64 (3 - id), .int .i64 term, .int .i64 mn, .int .i64 0, .string ⟨#[]⟩, .string ⟨#[]⟩, .int .i64 0, .string ⟨#[]⟩, .slice none 0 0] 25 29 25 29 29)
   refine bodyPost_ret (results_list (rs := [.cell 6 25, .cell 7 29, .tmp 8]) rfl (by simp) (.cell (w.heap.size + 1 + 1) 25 #[.bool up, .int .i64 term, .bool leads, .bool alone, .slice A ops.length c] (0, 0) _ rfl hA.2.2.2.1 Tryz.underlying25 rfl (by kernel_rfl) (.cell (w.heap.size + 1 + 1 + 1) 29 #[.int .i64 0, .int .i64 0, .int .i64 0, .int .i64 0, .int .i64 0, .string ⟨#[]⟩, .string ⟨#[]⟩, .int .i64 0, .string ⟨#[]⟩, .slice none 0 0] (0, 0) _ rfl hA.2.2.2.2.1 Tryz.underlying29 rfl (by kernel_rfl) (.tmp .nil)))) rfl ?_
   exact ⟨_, rfl, HT.out.bel hA.1, grown_of_bel hA.1 _, .inl rfl, fun _ => rfl⟩
 ·rw [if_neg c1] at hz hxn hxm
  obtain ⟨rfl, rfl⟩ : mt = term ∧ leads = false := by
   refine ⟨?_, ?_⟩
   ·exact Decidable.byContradiction fun e => c1 (.inl e)
   ·cases leads with
    | false => rfl
    | true => exact absurd (.inr rfl) c1
  clear c1
  by_cases c2 : mn ≤ ops.length
  ·rw [if_pos c2] at hz hxn hxm
   obtain rfl := hxn
   obtain rfl := hxm
   obtain ⟨k, rfl⟩ : ∃ k : Nat, mn = (k : Int) + 1 := ⟨(mn - 1).toNat, by omega⟩
   have hk : k < ops.length := by omega
   obtain ⟨x, hx⟩ := getQ hk
   have hxk : ops.getD ((k : Int) + 1 - 1).toNat noO = x := by rw [show ((k : Int) + 1 - 1).toNat = k by omega, List.getD_eq_getElem?_getD, hx]; rfl
   rw [hxk] at hz
   have HZ := Lib.hid hz
   have hw1 : wrap64 (k : Int) = k := by unfold wrap64; omega
   have hk1 : (k : Int) < ops.length := by omega
   have hk0 : (0 : Int) ≤ k := by omega
   clear hxk hz
   go_wp2
   obtain ⟨hW, hN, hP, hR, hM, hH⟩ := allocs5 w #[.bool up, .int .i64 mt, .bool false, .bool alone, .slice A ops.length c] #[.int .i64 kind, .int .i64 whom, .int .i64 mt, .int .i64 (k + 1), .int .i64 op.kind, .string op.name, .string op.dest, .int .i64 op.n, .string op.text, .slice B bn bc] zN_ #[.int .i64 0, .int .i64 0, .int .i64 0, .int .i64 0, .int .i64 0, .string ⟨#[]⟩, .string ⟨#[]⟩, .int .i64 0, .string ⟨#[]⟩, .slice none 0 0] #[.int .i64 2, .int .i64 (3 - id), .int .i64 mt, .int .i64 (k + 1), .int .i64 0, .string ⟨#[]⟩, .string ⟨#[]⟩, .int .i64 0, .string ⟨#[]⟩, .slice none 0 0] 25 29 25 29 29
   generalize (((((w.alloc (.cells #[.bool up, .int .i64 mt, .bool false, .bool alone, .slice A ops.length c] 25)).alloc (.cells #[.int .i64 kind, .int .i64 whom, .int .i64 mt, .int .i64 (k + 1), .int .i64 op.kind, .string op.name, .string op.dest, .int .i64 op.n, .string op.text, .slice B bn bc] 29)).alloc (.cells zN_ 25)).alloc (.cells #[.int .i64 0, .int .i64 0, .int .i64 0, .int .i64 0, .int .i64 0, .string ⟨#[]⟩, .string ⟨#[]⟩, .int .i64 0, .string ⟨#[]⟩, .slice none 0 0] 29)).alloc (.cells #[.int .i64 2, .int .i64 (3 - id), .int .i64 mt, .int .i64 (k + 1), .int .i64 0, .string ⟨#[]⟩, .string ⟨#[]⟩, .int .i64 0, .string ⟨#[]⟩, .slice none 0 0] 29)) = W0 at hW hN hP hR hM hH ⊢
   have HN := Lib.hid hN
   have HP := Lib.hid hP
   have HR := Lib.hid hR
   have HM := Lib.hid hM
   have HH := Lib.hid hH
   have HW := Lib.hid hW
   have hr_ := hR
   have hm_ := hM
   have HT0 := Lib.hid (HT.out.bel hW)
   obtain ⟨ad, rfl, -⟩ := at_op HT0.out.reads2 hx
   have HX := Lib.hid hx
   have HE := Lib.hid (op_cells (HT0.out.bel (Below.refl _ _).drew).reads2 hx)
   have HE2 := Lib.hid (op_cells ((HT0.out.far5 hR (.bool up) (.int .i64 mt) (.bool false) (.bool alone) (.slice (some ad) ops.length c)).bel (Below.refl _ _).drew).reads2 hx)
   have hne1 : w.heap.size + 1 + 1 ≠ w.heap.size := by omega
   have hne2 : w.heap.size + 1 + 1 ≠ w.heap.size + 1 := by omega
   have hne3 : w.heap.size + 1 + 1 ≠ w.heap.size + 1 + 1 + 1 + 1 := by omega
   obtain ⟨r0, r1, r2, r3, r4, -⟩ := k5c hr_
   obtain ⟨m0, m1, m2, m3, m4, m5, m6, m7, m8, m9, -⟩ := k10c hm_
   have rf0 := hr_.free 0
   have rf1 := hr_.free 1
   have rf2 := hr_.free 2
   have rf3 := hr_.free 3
   have rf4 := hr_.free 4
   have mf0 := hm_.free 0
   have mf1 := hm_.free 1
   have mf2 := hm_.free 2
   have mf3 := hm_.free 3
   have mf4 := hm_.free 4
   have mf5 := hm_.free 5
   have mf6 := hm_.free 6
   have mf7 := hm_.free 7
   have mf8 := hm_.free 8
   have mf9 := hm_.free 9
   have ry := hr_.lt
   have my := hm_.lt
   have hne4 : w.heap.size + 1 + 1 + 1 ≠ w.heap.size := by omega
   have hne5 : w.heap.size + 1 + 1 + 1 ≠ w.heap.size + 1 := by omega
   have hne6 : w.heap.size + 1 + 1 + 1 ≠ w.heap.size + 1 + 1 + 1 + 1 := by omega
   have HNa := Lib.hid (HN.out.apart5 hne1 (.bool up) (.int .i64 mt) (.bool false) (.bool alone) (.slice (some ad) ops.length c))
   have HPa := Lib.hid (HP.out.apart5 hne2 (.bool up) (.int .i64 mt) (.bool false) (.bool alone) (.slice (some ad) ops.length c))
   have HHa := Lib.hid (HH.out.apart5 hne3 (.bool up) (.int .i64 mt) (.bool false) (.bool alone) (.slice (some ad) ops.length c))
   have HNb := Lib.hid (Blk.apartS hne4 [.int .i64 2, .int .i64 (3 - id), .int .i64 mt, .int .i64 (k + 1), .int .i64 0, .string ⟨#[]⟩, .string ⟨#[]⟩, .int .i64 0, .string ⟨#[]⟩, .slice none 0 0] 0 HNa.out)
   have HPb := Lib.hid (Blk.apartS hne5 [.int .i64 2, .int .i64 (3 - id), .int .i64 mt, .int .i64 (k + 1), .int .i64 0, .string ⟨#[]⟩, .string ⟨#[]⟩, .int .i64 0, .string ⟨#[]⟩, .slice none 0 0] 0 HPa.out)
   have HHb := Lib.hid (Blk.apartS hne6 [.int .i64 2, .int .i64 (3 - id), .int .i64 mt, .int .i64 (k + 1), .int .i64 0, .string ⟨#[]⟩, .string ⟨#[]⟩, .int .i64 0, .string ⟨#[]⟩, .slice none 0 0] 0 HHa.out)
   have hMa := Blk.apartS (show w.heap.size + 1 + 1 ≠ w.heap.size + 1 + 1 + 1 by omega) [.bool up, .int .i64 mt, .bool false, .bool alone, .slice (some ad) ops.length c] 0 hM
   have HTb := Lib.hid ((HT0.out.far5 hR (.bool up) (.int .i64 mt) (.bool false) (.bool alone) (.slice (some ad) ops.length c)).sets hMa (by decide) [.int .i64 2, .int .i64 (3 - id), .int .i64 mt, .int .i64 (k + 1), .int .i64 0, .string ⟨#[]⟩, .string ⟨#[]⟩, .int .i64 0, .string ⟨#[]⟩, .slice none 0 0])
   have HE3 := Lib.hid (op_cells (HTb.out.bel (Below.refl _ _).drew).reads2 hx)
   clear hx
   refine start_ (n := 15) (S := fun w' => w'.cell? ⟨w.heap.size, 0, none⟩ = some (.bool up) ∧ w'.cell? ⟨w.heap.size, 1, none⟩ = some (.int .i64 mt) ∧ w'.cell? ⟨w.heap.size, 2, none⟩ = some (.bool false) ∧ w'.cell? ⟨w.heap.size, 3, none⟩ = some (.bool alone) ∧ w'.cell? ⟨w.heap.size, 4, none⟩ = some (.slice (some ad) ops.length c) ∧ w'.cell? ⟨w.heap.size + 1, 3, none⟩ = some (.int .i64 (k + 1)) ∧ w'.cell? ⟨w.heap.size + 1, 4, none⟩ = some (.int .i64 op.kind) ∧ w'.cell? ⟨w.heap.size + 1, 5, none⟩ = some (.string op.name) ∧ w'.cell? ⟨w.heap.size + 1, 6, none⟩ = some (.string op.dest) ∧ w'.cell? ⟨w.heap.size + 1, 7, none⟩ = some (.int .i64 op.n) ∧ w'.cell? ⟨w.heap.size + 1, 8, none⟩ = some (.string op.text) ∧ w'.cell? ⟨w.heap.size + 1 + 1 + 1 + 1, 0, none⟩ = some (.int .i64 2) ∧ w'.cell? ⟨w.heap.size + 1 + 1 + 1 + 1, 1, none⟩ = some (.int .i64 (3 - id)) ∧ w'.cell? ⟨w.heap.size + 1 + 1 + 1 + 1, 2, none⟩ = some (.int .i64 mt) ∧ w'.cell? ⟨w.heap.size + 1 + 1 + 1 + 1, 3, none⟩ = some (.int .i64 (k + 1)) ∧ w'.cell? ⟨w.heap.size + 1 + 1 + 1 + 1, 4, none⟩ = some (.int .i64 0) ∧ w'.cell? ⟨w.heap.size + 1 + 1 + 1 + 1, 5, none⟩ = some (.string ⟨#[]⟩) ∧ w'.cell? ⟨w.heap.size + 1 + 1 + 1 + 1, 6, none⟩ = some (.string ⟨#[]⟩) ∧ w'.cell? ⟨w.heap.size + 1 + 1 + 1 + 1, 7, none⟩ = some (.int .i64 0) ∧ w'.cell? ⟨w.heap.size + 1 + 1 + 1 + 1, 8, none⟩ = some (.string ⟨#[]⟩) ∧ w'.cell? ⟨w.heap.size + 1 + 1 + 1 + 1, 9, none⟩ = some (.slice none 0 0) ∧ w'.cell? (ad.add (k * 5)) = some (.int .i64 x.kind) ∧ w'.cell? ⟨(ad.add (k * 5)).block, (ad.add (k * 5)).off + 1, none⟩ = some (.string x.name) ∧ w'.cell? ⟨(ad.add (k * 5)).block, (ad.add (k * 5)).off + 2, none⟩ = some (.string x.dest) ∧ w'.cell? ⟨(ad.add (k * 5)).block, (ad.add (k * 5)).off + 3, none⟩ = some (.int .i64 x.n) ∧ w'.cell? ⟨(ad.add (k * 5)).block, (ad.add (k * 5)).off + 4, none⟩ = some (.string x.text)) (ds := []) #[F, F, F, F, F, F, F, F, F, F, F, F, F, F, F] (by kernel_rfl) rfl rfl ⟨(blkn (HN.out.bel (Below.refl _ _).drew) 0 _ rfl), (blkn (HN.out.bel (Below.refl _ _).drew) 1 _ rfl), (blkn (HN.out.bel (Below.refl _ _).drew) 2 _ rfl), (blkn (HN.out.bel (Below.refl _ _).drew) 3 _ rfl), (blkn (HN.out.bel (Below.refl _ _).drew) 4 _ rfl), (blkn (HP.out.bel (Below.refl _ _).drew) 3 _ rfl), (blkn (HP.out.bel (Below.refl _ _).drew) 4 _ rfl), (blkn (HP.out.bel (Below.refl _ _).drew) 5 _ rfl), (blkn (HP.out.bel (Below.refl _ _).drew) 6 _ rfl), (blkn (HP.out.bel (Below.refl _ _).drew) 7 _ rfl), (blkn (HP.out.bel (Below.refl _ _).drew) 8 _ rfl), (blkn (HH.out.bel (Below.refl _ _).drew) 0 _ rfl), (blkn (HH.out.bel (Below.refl _ _).drew) 1 _ rfl), (blkn (HH.out.bel (Below.refl _ _).drew) 2 _ rfl), (blkn (HH.out.bel (Below.refl _ _).drew) 3 _ rfl), (blkn (HH.out.bel (Below.refl _ _).drew) 4 _ rfl), (blkn (HH.out.bel (Below.refl _ _).drew) 5 _ rfl), (blkn (HH.out.bel (Below.refl _ _).drew) 6 _ rfl), (blkn (HH.out.bel (Below.refl _ _).drew) 7 _ rfl), (blkn (HH.out.bel (Below.refl _ _).drew) 8 _ rfl), (blkn (HH.out.bel (Below.refl _ _).drew) 9 _ rfl), HE.out.1, HE.out.2.1, HE.out.2.2.1, HE.out.2.2.2.1, HE.out.2.2.2.2⟩ (fun hHeld => ?_)
   refine py 2 (some 40) #[F, F, T, F, F, F, F, F, F, F, F, F, F, F, F] ?_
   refine py 4 (some 42) #[F, F, T, F, T, F, F, F, F, F, F, F, F, F, F] ?_
   refine py 9 (some 47) #[F, F, T, F, T, F, F, F, F, T, F, F, F, F, F] ?_
   refine ty 0 (some 38) #[T, F, T, F, T, F, F, F, F, T, F, F, F, F, F] (hS := hHeld) (hz := by rintro w' ⟨s0, s1, s2, s3, s4, s5, s6, s7, s8, s9, s10, s11, s12, s13, s14, s15, s16, s17, s18, s19, s20, s21, s22, s23, s24, s25⟩; go_simp; with_reducible rfl) (h := ?_)
   refine ty 1 (some 39) #[T, T, T, F, T, F, F, F, F, T, F, F, F, F, F] (hS := hHeld) (hz := by rintro w' ⟨s0, s1, s2, s3, s4, s5, s6, s7, s8, s9, s10, s11, s12, s13, s14, s15, s16, s17, s18, s19, s20, s21, s22, s23, s24, s25⟩; go_simp; with_reducible rfl) (h := ?_)
   refine ty 3 (some 41) #[T, T, T, T, T, F, F, F, F, T, F, F, F, F, F] (hS := hHeld) (hz := by rintro w' ⟨s0, s1, s2, s3, s4, s5, s6, s7, s8, s9, s10, s11, s12, s13, s14, s15, s16, s17, s18, s19, s20, s21, s22, s23, s24, s25⟩; go_simp; with_reducible rfl) (h := ?_)
   refine ty 5 (some 43) #[T, T, T, T, T, T, F, F, F, T, F, F, F, F, F] (hS := hHeld) (hz := by rintro w' ⟨s0, s1, s2, s3, s4, s5, s6, s7, s8, s9, s10, s11, s12, s13, s14, s15, s16, s17, s18, s19, s20, s21, s22, s23, s24, s25⟩; go_simp; with_reducible rfl) (h := ?_)
   refine py 6 (some 44) #[T, T, T, T, T, T, T, F, F, T, F, F, F, F, F] ?_
   refine py 7 (some 45) #[T, T, T, T, T, T, T, T, F, T, F, F, F, F, F] ?_
   refine ty 8 (some 46) #[T, T, T, T, T, T, T, T, T, T, F, F, F, F, F] (hS := hHeld) (hz := by rintro w' ⟨s0, s1, s2, s3, s4, s5, s6, s7, s8, s9, s10, s11, s12, s13, s14, s15, s16, s17, s18, s19, s20, s21, s22, s23, s24, s25⟩; go_simp; with_reducible rfl) (h := ?_)
   refine ty 10 (some 48) #[T, T, T, T, T, T, T, T, T, T, T, F, F, F, F] (hS := hHeld) (hz := by rintro w' ⟨s0, s1, s2, s3, s4, s5, s6, s7, s8, s9, s10, s11, s12, s13, s14, s15, s16, s17, s18, s19, s20, s21, s22, s23, s24, s25⟩; go_simp; with_reducible rfl) (h := ?_)
   refine pure_ (i := 11) (N := some 49) #[T, T, T, T, T, T, T, T, T, T, T, T, F, F, F] rfl rfl (by kernel_rfl) (fun _ _ _ h => h) (Or.inl ⟨by rfl, by intro w'; go_simp; exact opEq_ifs HZ.out _⟩) (by simp only [Act.put, lA, lB, lC, i64_w, i32_w]; rfl) ?_
   refine ox 12 none #[T, T, T, T, T, T, T, T, T, T, T, T, T, F, F] fun K hK => ?_
   refine sx ?_
   refine hK.out _ _ ⟨(blkn (HNa.out.bel (Below.refl _ _).drew) 0 _ rfl), (blkn (HNa.out.bel (Below.refl _ _).drew) 1 _ rfl), (blkn (HNa.out.bel (Below.refl _ _).drew) 2 _ rfl), (blkn (HNa.out.bel (Below.refl _ _).drew) 3 _ rfl), (blkn (HNa.out.bel (Below.refl _ _).drew) 4 _ rfl), (blkn (HPa.out.bel (Below.refl _ _).drew) 3 _ rfl), (blkn (HPa.out.bel (Below.refl _ _).drew) 4 _ rfl), (blkn (HPa.out.bel (Below.refl _ _).drew) 5 _ rfl), (blkn (HPa.out.bel (Below.refl _ _).drew) 6 _ rfl), (blkn (HPa.out.bel (Below.refl _ _).drew) 7 _ rfl), (blkn (HPa.out.bel (Below.refl _ _).drew) 8 _ rfl), (blkn (HHa.out.bel (Below.refl _ _).drew) 0 _ rfl), (blkn (HHa.out.bel (Below.refl _ _).drew) 1 _ rfl), (blkn (HHa.out.bel (Below.refl _ _).drew) 2 _ rfl), (blkn (HHa.out.bel (Below.refl _ _).drew) 3 _ rfl), (blkn (HHa.out.bel (Below.refl _ _).drew) 4 _ rfl), (blkn (HHa.out.bel (Below.refl _ _).drew) 5 _ rfl), (blkn (HHa.out.bel (Below.refl _ _).drew) 6 _ rfl), (blkn (HHa.out.bel (Below.refl _ _).drew) 7 _ rfl), (blkn (HHa.out.bel (Below.refl _ _).drew) 8 _ rfl), (blkn (HHa.out.bel (Below.refl _ _).drew) 9 _ rfl), HE2.out.1, HE2.out.2.1, HE2.out.2.2.1, HE2.out.2.2.2.1, HE2.out.2.2.2.2⟩ (fun hHeld => ?_)
   clear hK K
   refine ox 13 none #[T, T, T, T, T, T, T, T, T, T, T, T, T, T, F] fun K hK => ?_
   refine sx ?_
   refine hK.out _ _ ⟨(blkn (HNb.out.bel (Below.refl _ _).drew) 0 _ rfl), (blkn (HNb.out.bel (Below.refl _ _).drew) 1 _ rfl), (blkn (HNb.out.bel (Below.refl _ _).drew) 2 _ rfl), (blkn (HNb.out.bel (Below.refl _ _).drew) 3 _ rfl), (blkn (HNb.out.bel (Below.refl _ _).drew) 4 _ rfl), (blkn (HPb.out.bel (Below.refl _ _).drew) 3 _ rfl), (blkn (HPb.out.bel (Below.refl _ _).drew) 4 _ rfl), (blkn (HPb.out.bel (Below.refl _ _).drew) 5 _ rfl), (blkn (HPb.out.bel (Below.refl _ _).drew) 6 _ rfl), (blkn (HPb.out.bel (Below.refl _ _).drew) 7 _ rfl), (blkn (HPb.out.bel (Below.refl _ _).drew) 8 _ rfl), (blkn (HHb.out.bel (Below.refl _ _).drew) 0 _ rfl), (blkn (HHb.out.bel (Below.refl _ _).drew) 1 _ rfl), (blkn (HHb.out.bel (Below.refl _ _).drew) 2 _ rfl), (blkn (HHb.out.bel (Below.refl _ _).drew) 3 _ rfl), (blkn (HHb.out.bel (Below.refl _ _).drew) 4 _ rfl), (blkn (HHb.out.bel (Below.refl _ _).drew) 5 _ rfl), (blkn (HHb.out.bel (Below.refl _ _).drew) 6 _ rfl), (blkn (HHb.out.bel (Below.refl _ _).drew) 7 _ rfl), (blkn (HHb.out.bel (Below.refl _ _).drew) 8 _ rfl), (blkn (HHb.out.bel (Below.refl _ _).drew) 9 _ rfl), HE3.out.1, HE3.out.2.1, HE3.out.2.2.1, HE3.out.2.2.2.1, HE3.out.2.2.2.2⟩ (fun hHeld => ?_)
   clear hK K
   refine py 14 (some 8) #[T, T, T, T, T, T, T, T, T, T, T, T, T, T, T] ?_
   refine done_ (by kernel_rfl) ?_
   go_wp2
   have h2 := two_new (v1 := [.bool up, .int .i64 mt, .bool false, .bool alone, .slice (some ad) ops.length c]) (v2 := [.int .i64 2, .int .i64 (3 - id), .int .i64 mt, .int .i64 (k + 1), .int .i64 0, .string ⟨#[]⟩, .string ⟨#[]⟩, .int .i64 0, .string ⟨#[]⟩, .slice none 0 0]) rfl hr_ hm_ (show w.heap.size + 1 + 1 ≠ w.heap.size + 1 + 1 + 1 by omega) rfl rfl (by decide) (by decide)
   refine bodyPost_ret (results_list (rs := [.cell 6 25, .cell 7 29, .tmp 8]) rfl (by simp) (.cell _ 25 _ (0, 0) _ rfl (h2.b1.bel bel_drew) Tryz.underlying25 rfl (by kernel_rfl) (.cell _ 29 _ (0, 0) _ rfl (h2.b2.bel bel_drew) Tryz.underlying29 rfl (by kernel_rfl) (.tmp .nil)))) rfl ?_
   exact ⟨_, rfl, (h2.ownT HT0.out).bel bel_drew, grown_tr (h2.grown (grown_of_bel hW (Value.slice (some ad) ops.length c).ownBlock) (by omega) (by omega)) (grown_of_bel bel_drew _), .inl rfl, fun _ => rfl⟩
  ·rw [if_neg c2] at hz hxn hxm
   by_cases c3 : (ops.length : Int) + 1 < mn
   ·rw [if_pos c3] at hz hxn hxm
    obtain rfl := hz
    obtain rfl := hxn
    obtain rfl := hxm
    go_wp2
    have hA := (allocs5 w #[.bool up, .int .i64 mt, .bool false, .bool alone, .slice A ops.length c] #[.int .i64 kind, .int .i64 whom, .int .i64 mt, .int .i64 mn, .int .i64 op.kind, .string op.name, .string op.dest, .int .i64 op.n, .string op.text, .slice B bn bc] #[.bool up, .int .i64 mt, .bool false, .bool alone, .slice A ops.length c] #[.int .i64 0, .int .i64 0, .int .i64 0, .int .i64 0, .int .i64 0, .string ⟨#[]⟩, .string ⟨#[]⟩, .int .i64 0, .string ⟨#[]⟩, .slice none 0 0] #[.int .i64 2, .int .i64 (3 - id), .int .i64 mt, .int .i64 mn, .int .i64 0, .string ⟨#[]⟩, .string ⟨#[]⟩, .int .i64 0, .string ⟨#[]⟩, .slice none 0 0] 25 29 25 29 29)
    refine bodyPost_ret (results_list (rs := [.cell 6 25, .cell 7 29, .tmp 8]) rfl (by simp) (.cell (w.heap.size + 1 + 1) 25 #[.bool up, .int .i64 mt, .bool false, .bool alone, .slice A ops.length c] (0, 0) _ rfl hA.2.2.2.1 Tryz.underlying25 rfl (by kernel_rfl) (.cell (w.heap.size + 1 + 1 + 1) 29 #[.int .i64 0, .int .i64 0, .int .i64 0, .int .i64 0, .int .i64 0, .string ⟨#[]⟩, .string ⟨#[]⟩, .int .i64 0, .string ⟨#[]⟩, .slice none 0 0] (0, 0) _ rfl hA.2.2.2.2.1 Tryz.underlying29 rfl (by kernel_rfl) (.tmp .nil)))) rfl ?_
    exact ⟨_, rfl, HT.out.bel hA.1, grown_of_bel hA.1 _, .inl rfl, fun _ => rfl⟩
   ·rw [if_neg c3] at hz hxn hxm
    obtain rfl := hxm
    have HZ := Lib.hid hz
    have HXN := Lib.hid hxn
    clear hz hxn
    go_wp2_with fail
    obtain ⟨hW, hN, hP, hR, hM, hH⟩ := allocs5 w #[.bool up, .int .i64 mt, .bool false, .bool alone, .slice A ops.length c] #[.int .i64 kind, .int .i64 whom, .int .i64 mt, .int .i64 mn, .int .i64 op.kind, .string op.name, .string op.dest, .int .i64 op.n, .string op.text, .slice B bn bc] zN_ #[.int .i64 0, .int .i64 0, .int .i64 0, .int .i64 0, .int .i64 0, .string ⟨#[]⟩, .string ⟨#[]⟩, .int .i64 0, .string ⟨#[]⟩, .slice none 0 0] #[.int .i64 2, .int .i64 (3 - id), .int .i64 mt, .int .i64 mn, .int .i64 0, .string ⟨#[]⟩, .string ⟨#[]⟩, .int .i64 0, .string ⟨#[]⟩, .slice none 0 0] 25 29 25 29 29
    generalize (((((w.alloc (.cells #[.bool up, .int .i64 mt, .bool false, .bool alone, .slice A ops.length c] 25)).alloc (.cells #[.int .i64 kind, .int .i64 whom, .int .i64 mt, .int .i64 mn, .int .i64 op.kind, .string op.name, .string op.dest, .int .i64 op.n, .string op.text, .slice B bn bc] 29)).alloc (.cells zN_ 25)).alloc (.cells #[.int .i64 0, .int .i64 0, .int .i64 0, .int .i64 0, .int .i64 0, .string ⟨#[]⟩, .string ⟨#[]⟩, .int .i64 0, .string ⟨#[]⟩, .slice none 0 0] 29)).alloc (.cells #[.int .i64 2, .int .i64 (3 - id), .int .i64 mt, .int .i64 mn, .int .i64 0, .string ⟨#[]⟩, .string ⟨#[]⟩, .int .i64 0, .string ⟨#[]⟩, .slice none 0 0] 29)) = W0 at hW hN hP hR hM hH ⊢
    have HN := Lib.hid hN
    have HP := Lib.hid hP
    have HR := Lib.hid hR
    have HM := Lib.hid hM
    have HH := Lib.hid hH
    have HW := Lib.hid hW
    have hr_ := hR
    have hm_ := hM
    have hT0 := HT.out.bel hW
    have HT0 := Lib.hid hT0
    have hadd := l21Add_c (n := ⟨up, mt, false, alone, ops⟩) (o := op) hT0 (Nat.le_trans HBS.out hW.size) HO.out HSO.out HRX.out
    rw [HZ.out, HXN.out] at hadd
    clear hN hP hR hM hH hW hr_ hm_ hT0
    refine hadd.mono ?_
    rintro e w1 ⟨v, rfl, hv, hg, hat, hvf⟩
    have HR1 := Lib.hid (HR.out.grown hg (blk_otherT HT0.out HR.out (by decide)))
    have HM1 := Lib.hid (HM.out.grown hg (blk_otherT HT0.out HM.out (by decide)))
    have HH1 := Lib.hid (HH.out.grown hg (blk_otherT HT0.out HH.out (by decide)))
    have HG1 := Lib.hid (grown_tr (grown_of_bel HW.out (Value.slice A ops.length c).ownBlock) hg)
    have HAT := Lib.hid (show v.ownBlock = (Value.slice A ops.length c).ownBlock ∨ ∃ b, v.ownBlock = some b ∧ w.heap.size ≤ b from hat.imp (fun h => h) (fun ⟨b, h1, h2⟩ => ⟨b, h1, Nat.le_trans HW.out.size h2⟩))
    have HVF := Lib.hid hvf
    have HV1 := Lib.hid hv
    obtain ⟨C4, c4, rfl, hc4, hC4⟩ := hv.reads
    have LH := Lib.hid HH1.out.lt
    clear hg hat hadd hv hvf hc4 hC4 HN HP HR HM HH HW HZ HXN
    go_wp2
    have hX : Blk (w1.alloc (.cells (nC xn C4 c4) 25)) w1.heap.size (nC xn C4 c4) 25 := Blk.new _ _ _
    have hbx : Bel w1 (w1.alloc (.cells (nC xn C4 c4) 25)) := bel_alloc (Below.refl _ _) _
    have hR2 := HR1.out.bel hbx
    have hM2 := HM1.out.bel hbx
    have hH2 := HH1.out.bel hbx
    have hV2 := HV1.out.bel hbx
    have hG2 := grown_tr HG1.out (grown_of_bel hbx _)
    generalize (w1.alloc (.cells (nC xn C4 c4) 25)) = W2 at hX hbx hR2 hM2 hH2 hV2 hG2 ⊢
    obtain ⟨nb, hnb⟩ : ∃ nb, w1.heap.size = nb := ⟨_, rfl⟩
    have hlt := LH.out
    rw [hnb] at hX hlt ⊢
    have HX := Lib.hid hX
    have HH := Lib.hid hH2
    have hne1 : w.heap.size + 1 + 1 ≠ nb := by omega
    have hne2 : w.heap.size + 1 + 1 ≠ w.heap.size + 1 + 1 + 1 + 1 := by omega
    have hne3 : w.heap.size + 1 + 1 + 1 ≠ nb := by omega
    have hne4 : w.heap.size + 1 + 1 + 1 ≠ w.heap.size + 1 + 1 + 1 + 1 := by omega
    have HXa := Lib.hid (HX.out.apart5 hne1 (.bool xn.up) (.int .i64 xn.term) (.bool xn.leads) (.bool xn.alone) (.slice C4 xn.ops.length c4))
    have HHa := Lib.hid (HH.out.apart5 hne2 (.bool xn.up) (.int .i64 xn.term) (.bool xn.leads) (.bool xn.alone) (.slice C4 xn.ops.length c4))
    have HXb := Lib.hid (Blk.apartS hne3 [.int .i64 2, .int .i64 (3 - id), .int .i64 mt, .int .i64 mn, .int .i64 0, .string ⟨#[]⟩, .string ⟨#[]⟩, .int .i64 0, .string ⟨#[]⟩, .slice none 0 0] 0 HXa.out)
    have HHb := Lib.hid (Blk.apartS hne4 [.int .i64 2, .int .i64 (3 - id), .int .i64 mt, .int .i64 mn, .int .i64 0, .string ⟨#[]⟩, .string ⟨#[]⟩, .int .i64 0, .string ⟨#[]⟩, .slice none 0 0] 0 HHa.out)
    have hr_ := hR2
    have hm_ := hM2
    obtain ⟨r0, r1, r2, r3, r4, -⟩ := k5c hr_
    obtain ⟨m0, m1, m2, m3, m4, m5, m6, m7, m8, m9, -⟩ := k10c hm_
    have rf0 := hr_.free 0
    have rf1 := hr_.free 1
    have rf2 := hr_.free 2
    have rf3 := hr_.free 3
    have rf4 := hr_.free 4
    have mf0 := hm_.free 0
    have mf1 := hm_.free 1
    have mf2 := hm_.free 2
    have mf3 := hm_.free 3
    have mf4 := hm_.free 4
    have mf5 := hm_.free 5
    have mf6 := hm_.free 6
    have mf7 := hm_.free 7
    have mf8 := hm_.free 8
    have mf9 := hm_.free 9
    have ry := hr_.lt
    have my := hm_.lt
    clear hbx hH2 hX hnb hlt HR1 HM1 HH1 HV1 HG1 LH
    refine start_ (n := 6) (S := fun w' => w'.cell? ⟨nb, 0, none⟩ = some (.bool xn.up) ∧ w'.cell? ⟨nb, 1, none⟩ = some (.int .i64 xn.term) ∧ w'.cell? ⟨nb, 2, none⟩ = some (.bool xn.leads) ∧ w'.cell? ⟨nb, 3, none⟩ = some (.bool xn.alone) ∧ w'.cell? ⟨nb, 4, none⟩ = some (.slice C4 xn.ops.length c4) ∧ w'.cell? ⟨w.heap.size + 1 + 1 + 1 + 1, 0, none⟩ = some (.int .i64 2) ∧ w'.cell? ⟨w.heap.size + 1 + 1 + 1 + 1, 1, none⟩ = some (.int .i64 (3 - id)) ∧ w'.cell? ⟨w.heap.size + 1 + 1 + 1 + 1, 2, none⟩ = some (.int .i64 mt) ∧ w'.cell? ⟨w.heap.size + 1 + 1 + 1 + 1, 3, none⟩ = some (.int .i64 mn) ∧ w'.cell? ⟨w.heap.size + 1 + 1 + 1 + 1, 4, none⟩ = some (.int .i64 0) ∧ w'.cell? ⟨w.heap.size + 1 + 1 + 1 + 1, 5, none⟩ = some (.string ⟨#[]⟩) ∧ w'.cell? ⟨w.heap.size + 1 + 1 + 1 + 1, 6, none⟩ = some (.string ⟨#[]⟩) ∧ w'.cell? ⟨w.heap.size + 1 + 1 + 1 + 1, 7, none⟩ = some (.int .i64 0) ∧ w'.cell? ⟨w.heap.size + 1 + 1 + 1 + 1, 8, none⟩ = some (.string ⟨#[]⟩) ∧ w'.cell? ⟨w.heap.size + 1 + 1 + 1 + 1, 9, none⟩ = some (.slice none 0 0)) (ds := []) #[F, F, F, F, F, F] (by kernel_rfl) rfl rfl ⟨(blkn (HX.out.bel (Below.refl _ _).drew) 0 _ rfl), (blkn (HX.out.bel (Below.refl _ _).drew) 1 _ rfl), (blkn (HX.out.bel (Below.refl _ _).drew) 2 _ rfl), (blkn (HX.out.bel (Below.refl _ _).drew) 3 _ rfl), (blkn (HX.out.bel (Below.refl _ _).drew) 4 _ rfl), (blkn (HH.out.bel (Below.refl _ _).drew) 0 _ rfl), (blkn (HH.out.bel (Below.refl _ _).drew) 1 _ rfl), (blkn (HH.out.bel (Below.refl _ _).drew) 2 _ rfl), (blkn (HH.out.bel (Below.refl _ _).drew) 3 _ rfl), (blkn (HH.out.bel (Below.refl _ _).drew) 4 _ rfl), (blkn (HH.out.bel (Below.refl _ _).drew) 5 _ rfl), (blkn (HH.out.bel (Below.refl _ _).drew) 6 _ rfl), (blkn (HH.out.bel (Below.refl _ _).drew) 7 _ rfl), (blkn (HH.out.bel (Below.refl _ _).drew) 8 _ rfl), (blkn (HH.out.bel (Below.refl _ _).drew) 9 _ rfl)⟩ (fun hHeld => ?_)
    refine py 2 (some 69) #[F, F, T, F, F, F] ?_
    refine ty 0 (some 67) #[T, F, T, F, F, F] (hS := hHeld) (hz := by rintro w' ⟨s0, s1, s2, s3, s4, s5, s6, s7, s8, s9, s10, s11, s12, s13, s14⟩; go_simp; with_reducible rfl) (h := ?_)
    refine ty 1 (some 68) #[T, T, T, F, F, F] (hS := hHeld) (hz := by rintro w' ⟨s0, s1, s2, s3, s4, s5, s6, s7, s8, s9, s10, s11, s12, s13, s14⟩; go_simp; with_reducible rfl) (h := ?_)
    refine ox 3 none #[T, T, T, T, F, F] fun K hK => ?_
    refine sx ?_
    refine hK.out _ _ ⟨(blkn (HXa.out.bel (Below.refl _ _).drew) 0 _ rfl), (blkn (HXa.out.bel (Below.refl _ _).drew) 1 _ rfl), (blkn (HXa.out.bel (Below.refl _ _).drew) 2 _ rfl), (blkn (HXa.out.bel (Below.refl _ _).drew) 3 _ rfl), (blkn (HXa.out.bel (Below.refl _ _).drew) 4 _ rfl), (blkn (HHa.out.bel (Below.refl _ _).drew) 0 _ rfl), (blkn (HHa.out.bel (Below.refl _ _).drew) 1 _ rfl), (blkn (HHa.out.bel (Below.refl _ _).drew) 2 _ rfl), (blkn (HHa.out.bel (Below.refl _ _).drew) 3 _ rfl), (blkn (HHa.out.bel (Below.refl _ _).drew) 4 _ rfl), (blkn (HHa.out.bel (Below.refl _ _).drew) 5 _ rfl), (blkn (HHa.out.bel (Below.refl _ _).drew) 6 _ rfl), (blkn (HHa.out.bel (Below.refl _ _).drew) 7 _ rfl), (blkn (HHa.out.bel (Below.refl _ _).drew) 8 _ rfl), (blkn (HHa.out.bel (Below.refl _ _).drew) 9 _ rfl)⟩ (fun hHeld => ?_)
    clear hK K
    refine ox 4 none #[T, T, T, T, T, F] fun K hK => ?_
    refine sx ?_
    refine hK.out _ _ ⟨(blkn (HXb.out.bel (Below.refl _ _).drew) 0 _ rfl), (blkn (HXb.out.bel (Below.refl _ _).drew) 1 _ rfl), (blkn (HXb.out.bel (Below.refl _ _).drew) 2 _ rfl), (blkn (HXb.out.bel (Below.refl _ _).drew) 3 _ rfl), (blkn (HXb.out.bel (Below.refl _ _).drew) 4 _ rfl), (blkn (HHb.out.bel (Below.refl _ _).drew) 0 _ rfl), (blkn (HHb.out.bel (Below.refl _ _).drew) 1 _ rfl), (blkn (HHb.out.bel (Below.refl _ _).drew) 2 _ rfl), (blkn (HHb.out.bel (Below.refl _ _).drew) 3 _ rfl), (blkn (HHb.out.bel (Below.refl _ _).drew) 4 _ rfl), (blkn (HHb.out.bel (Below.refl _ _).drew) 5 _ rfl), (blkn (HHb.out.bel (Below.refl _ _).drew) 6 _ rfl), (blkn (HHb.out.bel (Below.refl _ _).drew) 7 _ rfl), (blkn (HHb.out.bel (Below.refl _ _).drew) 8 _ rfl), (blkn (HHb.out.bel (Below.refl _ _).drew) 9 _ rfl)⟩ (fun hHeld => ?_)
    clear hK K
    refine py 5 (some 8) #[T, T, T, T, T, T] ?_
    refine done_ (by kernel_rfl) ?_
    go_wp2
    have h2 := two_new (v1 := [.bool xn.up, .int .i64 xn.term, .bool xn.leads, .bool xn.alone, .slice C4 xn.ops.length c4]) (v2 := [.int .i64 2, .int .i64 (3 - id), .int .i64 mt, .int .i64 mn, .int .i64 0, .string ⟨#[]⟩, .string ⟨#[]⟩, .int .i64 0, .string ⟨#[]⟩, .slice none 0 0]) rfl hr_ hm_ (show w.heap.size + 1 + 1 ≠ w.heap.size + 1 + 1 + 1 by omega) rfl rfl (by decide) (by decide)
    refine bodyPost_ret (results_list (rs := [.cell 6 25, .cell 7 29, .tmp 8]) rfl (by simp) (.cell _ 25 _ (0, 0) _ rfl (h2.b1.bel bel_drew) Tryz.underlying25 rfl (by kernel_rfl) (.cell _ 29 _ (0, 0) _ rfl (h2.b2.bel bel_drew) Tryz.underlying29 rfl (by kernel_rfl) (.tmp .nil)))) rfl ?_
    exact ⟨_, rfl, (h2.ownT hV2).bel bel_drew, grown_tr (h2.grown hG2 (by omega) (by omega)) (grown_of_bel bel_drew _), HAT.out, HVF.out⟩
end
theorem allocs4 (w : World) (c0 c1 c2 c3 : Array Value) (t0 t1 t2 t3 : TypeId) :
  Bel w ((((w.alloc (.cells c0 t0)).alloc (.cells c1 t1)).alloc (.cells c2 t2)).alloc (.cells c3 t3)) ∧
  Blk ((((w.alloc (.cells c0 t0)).alloc (.cells c1 t1)).alloc (.cells c2 t2)).alloc (.cells c3 t3)) w.heap.size c0 t0 ∧
  Blk ((((w.alloc (.cells c0 t0)).alloc (.cells c1 t1)).alloc (.cells c2 t2)).alloc (.cells c3 t3)) (w.heap.size + 1) c1 t1 ∧
  Blk ((((w.alloc (.cells c0 t0)).alloc (.cells c1 t1)).alloc (.cells c2 t2)).alloc (.cells c3 t3)) (w.heap.size + 1 + 1) c2 t2 ∧
  Blk ((((w.alloc (.cells c0 t0)).alloc (.cells c1 t1)).alloc (.cells c2 t2)).alloc (.cells c3 t3)) (w.heap.size + 1 + 1 + 1) c3 t3 := by
 refine ⟨bel_alloc (bel_alloc (bel_alloc (bel_alloc (Below.refl _ _) _) _) _) _, (((Blk.new _ _ _).alloc _).alloc _).alloc _, ((Blk.nw2 w _ _ _).alloc _).alloc _, ?_, ?_⟩
 ·have := Blk.new ((w.alloc (.cells c0 t0)).alloc (.cells c1 t1)) c2 t2
  simpa using this.alloc _
 ·have := Blk.new (((w.alloc (.cells c0 t0)).alloc (.cells c1 t1)).alloc (.cells c2 t2)) c3 t3
  simpa using this
def nayB (n : Node) (kind mt : Int) : Bool := decide (kind ≠ 3) || (decide (mt < n.term) || (decide (mt = n.term) && n.leads))
def hearN (n : Node) (m : Msg) : Node := if m.kind = 1 then copN n m.term m.n m.op else if nayB n m.kind m.term then n else if n.term < m.term ∨ (n.ops.length : Int) < m.n then ⟨n.up, m.term, false, false, m.ops⟩ else n
def hearB (n : Node) (m : Msg) : Bool := if m.kind = 1 then copB n m.term m.n m.op else !nayB n m.kind m.term
def hearM (n : Node) (id : Int) (m : Msg) : Msg := if m.kind = 1 then (if copB n m.term m.n m.op then copM n id m.term m.n else noM) else if nayB n m.kind m.term then noM else ⟨4, 3 - id, (hearN n m).term, (hearN n m).ops.length, noO, []⟩
def HeardN (base : Nat) (w : World) (n : Node) (m : Msg) (v0 : Value) (ok : Bool) (e : Ending) (w' : World) : Prop :=
 ∃ v, e = .returned (.tuple #[.agg #[.bool n.up, .int .i64 n.term, .bool n.leads, .bool n.alone, v], .agg #[.int .i64 m.kind, .int .i64 m.whom, .int .i64 m.term, .int .i64 m.n, .int .i64 m.op.kind, .string m.op.name, .string m.op.dest, .int .i64 m.op.n, .string m.op.text, .slice none 0 0], .bool ok]) ∧ OwnT w' base v n.ops ∧ w.grownBy w' v0.ownBlock ∧ ∀ k, v.ownBlock = some k → v0.ownBlock = some k ∨ w.heap.size ≤ k
section
variable {w : World} {A B : Option Addr} {c base bc : Nat} {up leads alone : Bool} {kind whom mt mn term id : Int} {ops mops : List Op} {op : Op}
theorem l21Hear_f {q : Pool} (h : OwnT w base (.slice A ops.length c) ops) (hbase : base ≤ w.heap.size) (ho : SmallOs ops) (hso : SmallO op) (hC : kOp.C w B mops.length mops) (hlm : mops.length ≤ 1048576) (hid : id = 1 ∨ id = 2) (hr : runP newP ops = some q) (hmn : kind = 1 → 1 ≤ mn ∧ mn ≤ 20) :
  Calls Tryz.prog 40 #[.agg #[.bool up, .int .i64 term, .bool leads, .bool alone, .slice A ops.length c], .int .i64 id, .agg #[.int .i64 kind, .int .i64 whom, .int .i64 mt, .int .i64 mn, .int .i64 op.kind, .string op.name, .string op.dest, .int .i64 op.n, .string op.text, .slice B mops.length bc]] w (HeardN base w (hearN ⟨up, term, leads, alone, ops⟩ ⟨kind, whom, mt, mn, op, mops⟩) (hearM ⟨up, term, leads, alone, ops⟩ id ⟨kind, whom, mt, mn, op, mops⟩) (.slice A ops.length c) (hearB ⟨up, term, leads, alone, ops⟩ ⟨kind, whom, mt, mn, op, mops⟩)) := by
 have HT := Lib.hid h
 have HBS := Lib.hid hbase
 have HO := Lib.hid ho
 have HSO := Lib.hid hso
 have HMC := Lib.hid hC
 have HRX := Lib.hid hr
 have HID := Lib.hid hid
 have hl9 := ho.len
 have hid3 : wrap64 (3 - id) = 3 - id := by have h3 := HID.out; unfold wrap64; omega
 by_cases k1 : kind = 1
 ·subst k1
  have HMN := Lib.hid (hmn rfl)
  obtain ⟨z, hz⟩ : ∃ z, copB ⟨up, term, leads, alone, ops⟩ mt mn op = z := ⟨_, rfl⟩
  obtain ⟨xn, hxn⟩ : ∃ x, copN ⟨up, term, leads, alone, ops⟩ mt mn op = x := ⟨_, rfl⟩
  obtain ⟨xm, hxm⟩ : ∃ x, copM ⟨up, term, leads, alone, ops⟩ id mt mn = x := ⟨_, rfl⟩
  have e1 : hearN ⟨up, term, leads, alone, ops⟩ ⟨1, whom, mt, mn, op, mops⟩ = xn := hxn
  have e2 : hearB ⟨up, term, leads, alone, ops⟩ ⟨1, whom, mt, mn, op, mops⟩ = z := hz
  have e3 : hearM ⟨up, term, leads, alone, ops⟩ id ⟨1, whom, mt, mn, op, mops⟩ = (if z then xm else noM) := by rw [← hz, ← hxm]; rfl
  rw [e1, e2, e3]
  obtain ⟨xl, hxl⟩ : ∃ x, (if z then xm else noM) = x := ⟨_, rfl⟩
  rw [hxl]
  have HXL := Lib.hid hxl
  have HZ := Lib.hid (And.intro hz (And.intro hxn hxm))
  clear h hbase ho hso hC hid hr hmn hz hxn hxm hxl e1 e2 e3
  go_enter Tryz.func40, Tryz.ntmps40
  go_wp2_with fail
  obtain ⟨hW, hN, hP, hR, hM⟩ := (allocs4 w #[.bool up, .int .i64 term, .bool leads, .bool alone, .slice A ops.length c] #[.int .i64 1, .int .i64 whom, .int .i64 mt, .int .i64 mn, .int .i64 op.kind, .string op.name, .string op.dest, .int .i64 op.n, .string op.text, .slice B mops.length bc] zN_ #[.int .i64 0, .int .i64 0, .int .i64 0, .int .i64 0, .int .i64 0, .string ⟨#[]⟩, .string ⟨#[]⟩, .int .i64 0, .string ⟨#[]⟩, .slice none 0 0] 25 29 25 29)
  generalize ((((w.alloc (.cells #[.bool up, .int .i64 term, .bool leads, .bool alone, .slice A ops.length c] 25)).alloc (.cells #[.int .i64 1, .int .i64 whom, .int .i64 mt, .int .i64 mn, .int .i64 op.kind, .string op.name, .string op.dest, .int .i64 op.n, .string op.text, .slice B mops.length bc] 29)).alloc (.cells zN_ 25)).alloc (.cells #[.int .i64 0, .int .i64 0, .int .i64 0, .int .i64 0, .int .i64 0, .string ⟨#[]⟩, .string ⟨#[]⟩, .int .i64 0, .string ⟨#[]⟩, .slice none 0 0] 29)) = W0 at hW hN hP hR hM ⊢
  have HT0 := Lib.hid (HT.out.bel hW)
  have hcop := l21Copied_f (up := up) (leads := leads) (alone := alone) (term := term) (kind := 1) (whom := whom) (mt := mt) (mn := mn) (op := op) (B := B) (bn := mops.length) (bc := bc) HT0.out (Nat.le_trans HBS.out hW.size) HO.out HSO.out HID.out HRX.out HMN.out
  rw [HZ.out.1, HZ.out.2.1, HZ.out.2.2] at hcop
  have HR := Lib.hid hR
  have HM := Lib.hid hM
  have HW := Lib.hid hW
  clear hW hN hP hR hM HZ
  refine hcop.mono ?_
  rintro e w1 ⟨v, rfl, hv, hg, hat, hvf⟩
  have HR1 := Lib.hid (HR.out.grown hg (blk_otherT HT0.out HR.out (by decide)))
  have HM1 := Lib.hid (HM.out.grown hg (blk_otherT HT0.out HM.out (by decide)))
  have HG1 := Lib.hid (grown_tr (grown_of_bel HW.out (Value.slice A ops.length c).ownBlock) hg)
  have HAT := Lib.hid (show ∀ k, v.ownBlock = some k → (Value.slice A ops.length c).ownBlock = some k ∨ w.heap.size ≤ k from fun k hk => by
   rcases hat with h | ⟨b, h1, h2⟩
   ·exact .inl (h.symm.trans hk)
   ·exact .inr (by rw [h1] at hk; cases hk; exact Nat.le_trans HW.out.size h2))
  have HV1 := Lib.hid hv
  obtain ⟨C4, c4, rfl, -, -⟩ := hv.reads
  have LH := Lib.hid (show w.heap.size + 1 + 1 + 1 < w1.heap.size from HM1.out.lt)
  clear hg hat hvf hv hcop HT0 HR HM HW
  cases z with
  | true =>
   obtain rfl : xm = xl := HXL.out
   clear HXL
   go_wp2
   have hX : Blk ((w1.alloc (.cells (nC xn C4 c4) 25)).alloc (.cells (mC xm) 29)) w1.heap.size (nC xn C4 c4) 25 := (Blk.new _ _ _).alloc _
   have hY : Blk ((w1.alloc (.cells (nC xn C4 c4) 25)).alloc (.cells (mC xm) 29)) (w1.heap.size + 1) (mC xm) 29 := Blk.nw2 _ _ _ _
   have hbx : Bel w1 ((w1.alloc (.cells (nC xn C4 c4) 25)).alloc (.cells (mC xm) 29)) := bel_alloc (bel_alloc (Below.refl _ _) _) _
   have hR2 := HR1.out.bel hbx
   have hM2 := HM1.out.bel hbx
   have hV2 := HV1.out.bel hbx
   have hG2 := grown_tr HG1.out (grown_of_bel hbx _)
   generalize ((w1.alloc (.cells (nC xn C4 c4) 25)).alloc (.cells (mC xm) 29)) = W2 at hX hY hbx hR2 hM2 hV2 hG2 ⊢
   obtain ⟨nb, hnb⟩ : ∃ nb, w1.heap.size = nb := ⟨_, rfl⟩
   have hlt := LH.out
   rw [hnb] at hX hY hlt ⊢
   have HX := Lib.hid hX
   have HY := Lib.hid hY
   clear hbx hX hY hnb HR1 HM1 HV1 HG1 LH
   have hq0 : w.heap.size + 1 + 1 ≠ nb := by omega
   have HXa := Lib.hid (HX.out.apart5 hq0 (.bool xn.up) (.int .i64 xn.term) (.bool xn.leads) (.bool xn.alone) (.slice C4 xn.ops.length c4))
   have hp0 : w.heap.size + 1 + 1 + 1 ≠ nb := by omega
   have HXb := Lib.hid (Blk.apartS hp0 [.int .i64 xm.kind, .int .i64 xm.whom, .int .i64 xm.term, .int .i64 xm.n, .int .i64 xm.op.kind, .string xm.op.name, .string xm.op.dest, .int .i64 xm.op.n, .string xm.op.text, .slice none 0 0] 0 HXa.out)
   have hq1 : w.heap.size + 1 + 1 ≠ nb + 1 := by omega
   have HYa := Lib.hid (HY.out.apart5 hq1 (.bool xn.up) (.int .i64 xn.term) (.bool xn.leads) (.bool xn.alone) (.slice C4 xn.ops.length c4))
   have hp1 : w.heap.size + 1 + 1 + 1 ≠ nb + 1 := by omega
   have HYb := Lib.hid (Blk.apartS hp1 [.int .i64 xm.kind, .int .i64 xm.whom, .int .i64 xm.term, .int .i64 xm.n, .int .i64 xm.op.kind, .string xm.op.name, .string xm.op.dest, .int .i64 xm.op.n, .string xm.op.text, .slice none 0 0] 0 HYa.out)
   have hr_ := hR2
   have hm_ := hM2
   obtain ⟨r0, r1, r2, r3, r4, -⟩ := k5c hr_
   obtain ⟨m0, m1, m2, m3, m4, m5, m6, m7, m8, m9, -⟩ := k10c hm_
   have rf0 := hr_.free 0
   have rf1 := hr_.free 1
   have rf2 := hr_.free 2
   have rf3 := hr_.free 3
   have rf4 := hr_.free 4
   have mf0 := hm_.free 0
   have mf1 := hm_.free 1
   have mf2 := hm_.free 2
   have mf3 := hm_.free 3
   have mf4 := hm_.free 4
   have mf5 := hm_.free 5
   have mf6 := hm_.free 6
   have mf7 := hm_.free 7
   have mf8 := hm_.free 8
   have mf9 := hm_.free 9
   have ry := hr_.lt
   have my := hm_.lt
   refine start_ (n := 6) (S := fun w' => w'.cell? ⟨nb, 0, none⟩ = some (.bool xn.up) ∧ w'.cell? ⟨nb, 1, none⟩ = some (.int .i64 xn.term) ∧ w'.cell? ⟨nb, 2, none⟩ = some (.bool xn.leads) ∧ w'.cell? ⟨nb, 3, none⟩ = some (.bool xn.alone) ∧ w'.cell? ⟨nb, 4, none⟩ = some (.slice C4 xn.ops.length c4) ∧ w'.cell? ⟨nb + 1, 0, none⟩ = some (.int .i64 xm.kind) ∧ w'.cell? ⟨nb + 1, 1, none⟩ = some (.int .i64 xm.whom) ∧ w'.cell? ⟨nb + 1, 2, none⟩ = some (.int .i64 xm.term) ∧ w'.cell? ⟨nb + 1, 3, none⟩ = some (.int .i64 xm.n) ∧ w'.cell? ⟨nb + 1, 4, none⟩ = some (.int .i64 xm.op.kind) ∧ w'.cell? ⟨nb + 1, 5, none⟩ = some (.string xm.op.name) ∧ w'.cell? ⟨nb + 1, 6, none⟩ = some (.string xm.op.dest) ∧ w'.cell? ⟨nb + 1, 7, none⟩ = some (.int .i64 xm.op.n) ∧ w'.cell? ⟨nb + 1, 8, none⟩ = some (.string xm.op.text) ∧ w'.cell? ⟨nb + 1, 9, none⟩ = some (.slice none 0 0)) (ds := []) #[F, F, F, F, F, F] (by kernel_rfl) rfl rfl ⟨(blkn (HX.out.bel (Below.refl _ _).drew) 0 _ rfl), (blkn (HX.out.bel (Below.refl _ _).drew) 1 _ rfl), (blkn (HX.out.bel (Below.refl _ _).drew) 2 _ rfl), (blkn (HX.out.bel (Below.refl _ _).drew) 3 _ rfl), (blkn (HX.out.bel (Below.refl _ _).drew) 4 _ rfl), (blkn (HY.out.bel (Below.refl _ _).drew) 0 _ rfl), (blkn (HY.out.bel (Below.refl _ _).drew) 1 _ rfl), (blkn (HY.out.bel (Below.refl _ _).drew) 2 _ rfl), (blkn (HY.out.bel (Below.refl _ _).drew) 3 _ rfl), (blkn (HY.out.bel (Below.refl _ _).drew) 4 _ rfl), (blkn (HY.out.bel (Below.refl _ _).drew) 5 _ rfl), (blkn (HY.out.bel (Below.refl _ _).drew) 6 _ rfl), (blkn (HY.out.bel (Below.refl _ _).drew) 7 _ rfl), (blkn (HY.out.bel (Below.refl _ _).drew) 8 _ rfl), (blkn (HY.out.bel (Below.refl _ _).drew) 9 _ rfl)⟩ (fun hHeld => ?_)
   refine py 2 (some 28) #[F, F, T, F, F, F] ?_
   refine ty 0 (some 26) #[T, F, T, F, F, F] (hS := hHeld) (hz := by rintro w' ⟨s0, s1, s2, s3, s4, s5, s6, s7, s8, s9, s10, s11, s12, s13, s14⟩; go_simp; with_reducible rfl) (h := ?_)
   refine ty 1 (some 27) #[T, T, T, F, F, F] (hS := hHeld) (hz := by rintro w' ⟨s0, s1, s2, s3, s4, s5, s6, s7, s8, s9, s10, s11, s12, s13, s14⟩; go_simp; with_reducible rfl) (h := ?_)
   refine ox 3 none #[T, T, T, T, F, F] fun K hK => ?_
   refine sx ?_
   refine hK.out _ _ ⟨(blkn (HXa.out.bel (Below.refl _ _).drew) 0 _ rfl), (blkn (HXa.out.bel (Below.refl _ _).drew) 1 _ rfl), (blkn (HXa.out.bel (Below.refl _ _).drew) 2 _ rfl), (blkn (HXa.out.bel (Below.refl _ _).drew) 3 _ rfl), (blkn (HXa.out.bel (Below.refl _ _).drew) 4 _ rfl), (blkn (HYa.out.bel (Below.refl _ _).drew) 0 _ rfl), (blkn (HYa.out.bel (Below.refl _ _).drew) 1 _ rfl), (blkn (HYa.out.bel (Below.refl _ _).drew) 2 _ rfl), (blkn (HYa.out.bel (Below.refl _ _).drew) 3 _ rfl), (blkn (HYa.out.bel (Below.refl _ _).drew) 4 _ rfl), (blkn (HYa.out.bel (Below.refl _ _).drew) 5 _ rfl), (blkn (HYa.out.bel (Below.refl _ _).drew) 6 _ rfl), (blkn (HYa.out.bel (Below.refl _ _).drew) 7 _ rfl), (blkn (HYa.out.bel (Below.refl _ _).drew) 8 _ rfl), (blkn (HYa.out.bel (Below.refl _ _).drew) 9 _ rfl)⟩ (fun hHeld => ?_)
   clear hK K
   refine ox 4 none #[T, T, T, T, T, F] fun K hK => ?_
   refine sx ?_
   refine hK.out _ _ ⟨(blkn (HXb.out.bel (Below.refl _ _).drew) 0 _ rfl), (blkn (HXb.out.bel (Below.refl _ _).drew) 1 _ rfl), (blkn (HXb.out.bel (Below.refl _ _).drew) 2 _ rfl), (blkn (HXb.out.bel (Below.refl _ _).drew) 3 _ rfl), (blkn (HXb.out.bel (Below.refl _ _).drew) 4 _ rfl), (blkn (HYb.out.bel (Below.refl _ _).drew) 0 _ rfl), (blkn (HYb.out.bel (Below.refl _ _).drew) 1 _ rfl), (blkn (HYb.out.bel (Below.refl _ _).drew) 2 _ rfl), (blkn (HYb.out.bel (Below.refl _ _).drew) 3 _ rfl), (blkn (HYb.out.bel (Below.refl _ _).drew) 4 _ rfl), (blkn (HYb.out.bel (Below.refl _ _).drew) 5 _ rfl), (blkn (HYb.out.bel (Below.refl _ _).drew) 6 _ rfl), (blkn (HYb.out.bel (Below.refl _ _).drew) 7 _ rfl), (blkn (HYb.out.bel (Below.refl _ _).drew) 8 _ rfl), (blkn (HYb.out.bel (Below.refl _ _).drew) 9 _ rfl)⟩ (fun hHeld => ?_)
   clear hK K
   refine py 5 (some 8) #[T, T, T, T, T, T] ?_
   refine done_ (by kernel_rfl) ?_
   go_wp2
   have h2 := two_new (v1 := [.bool xn.up, .int .i64 xn.term, .bool xn.leads, .bool xn.alone, .slice C4 xn.ops.length c4]) (v2 := [.int .i64 xm.kind, .int .i64 xm.whom, .int .i64 xm.term, .int .i64 xm.n, .int .i64 xm.op.kind, .string xm.op.name, .string xm.op.dest, .int .i64 xm.op.n, .string xm.op.text, .slice none 0 0]) rfl hr_ hm_ (show w.heap.size + 1 + 1 ≠ w.heap.size + 1 + 1 + 1 by omega) rfl rfl (by decide) (by decide)
   refine bodyPost_ret (results_list (rs := [.cell 6 25, .cell 7 29, .tmp 8]) rfl (by simp) (.cell _ 25 _ (0, 0) _ rfl (h2.b1.bel bel_drew) Tryz.underlying25 rfl (by kernel_rfl) (.cell _ 29 _ (0, 0) _ rfl (h2.b2.bel bel_drew) Tryz.underlying29 rfl (by kernel_rfl) (.tmp .nil)))) rfl ?_
   exact ⟨_, rfl, (h2.ownT hV2).bel bel_drew, grown_tr (h2.grown hG2 (by omega) (by omega)) (grown_of_bel bel_drew _), HAT.out⟩
  | false =>
   obtain rfl : noM = xl := HXL.out
   clear HXL
   go_wp2
   have hX : Blk ((w1.alloc (.cells (nC xn C4 c4) 25)).alloc (.cells #[.int .i64 0, .int .i64 0, .int .i64 0, .int .i64 0, .int .i64 0, .string ⟨#[]⟩, .string ⟨#[]⟩, .int .i64 0, .string ⟨#[]⟩, .slice none 0 0] 29)) w1.heap.size (nC xn C4 c4) 25 := (Blk.new _ _ _).alloc _
   have hY : Blk ((w1.alloc (.cells (nC xn C4 c4) 25)).alloc (.cells #[.int .i64 0, .int .i64 0, .int .i64 0, .int .i64 0, .int .i64 0, .string ⟨#[]⟩, .string ⟨#[]⟩, .int .i64 0, .string ⟨#[]⟩, .slice none 0 0] 29)) (w1.heap.size + 1) #[.int .i64 0, .int .i64 0, .int .i64 0, .int .i64 0, .int .i64 0, .string ⟨#[]⟩, .string ⟨#[]⟩, .int .i64 0, .string ⟨#[]⟩, .slice none 0 0] 29 := Blk.nw2 _ _ _ _
   have hbx : Bel w1 ((w1.alloc (.cells (nC xn C4 c4) 25)).alloc (.cells #[.int .i64 0, .int .i64 0, .int .i64 0, .int .i64 0, .int .i64 0, .string ⟨#[]⟩, .string ⟨#[]⟩, .int .i64 0, .string ⟨#[]⟩, .slice none 0 0] 29)) := bel_alloc (bel_alloc (Below.refl _ _) _) _
   have hR2 := HR1.out.bel hbx
   have hM2 := HM1.out.bel hbx
   have hV2 := HV1.out.bel hbx
   have hG2 := grown_tr HG1.out (grown_of_bel hbx _)
   generalize ((w1.alloc (.cells (nC xn C4 c4) 25)).alloc (.cells #[.int .i64 0, .int .i64 0, .int .i64 0, .int .i64 0, .int .i64 0, .string ⟨#[]⟩, .string ⟨#[]⟩, .int .i64 0, .string ⟨#[]⟩, .slice none 0 0] 29)) = W2 at hX hY hbx hR2 hM2 hV2 hG2 ⊢
   obtain ⟨nb, hnb⟩ : ∃ nb, w1.heap.size = nb := ⟨_, rfl⟩
   have hlt := LH.out
   rw [hnb] at hX hY hlt ⊢
   have HX := Lib.hid hX
   have HY := Lib.hid hY
   clear hbx hX hY hnb HR1 HM1 HV1 HG1 LH
   have hq0 : w.heap.size + 1 + 1 ≠ nb := by omega
   have HXa := Lib.hid (HX.out.apart5 hq0 (.bool xn.up) (.int .i64 xn.term) (.bool xn.leads) (.bool xn.alone) (.slice C4 xn.ops.length c4))
   have hp0 : w.heap.size + 1 + 1 + 1 ≠ nb := by omega
   have HXb := Lib.hid (Blk.apartS hp0 [.int .i64 0, .int .i64 0, .int .i64 0, .int .i64 0, .int .i64 0, .string ⟨#[]⟩, .string ⟨#[]⟩, .int .i64 0, .string ⟨#[]⟩, .slice none 0 0] 0 HXa.out)
   have hq1 : w.heap.size + 1 + 1 ≠ nb + 1 := by omega
   have HYa := Lib.hid (HY.out.apart5 hq1 (.bool xn.up) (.int .i64 xn.term) (.bool xn.leads) (.bool xn.alone) (.slice C4 xn.ops.length c4))
   have hp1 : w.heap.size + 1 + 1 + 1 ≠ nb + 1 := by omega
   have HYb := Lib.hid (Blk.apartS hp1 [.int .i64 0, .int .i64 0, .int .i64 0, .int .i64 0, .int .i64 0, .string ⟨#[]⟩, .string ⟨#[]⟩, .int .i64 0, .string ⟨#[]⟩, .slice none 0 0] 0 HYa.out)
   have hr_ := hR2
   have hm_ := hM2
   obtain ⟨r0, r1, r2, r3, r4, -⟩ := k5c hr_
   obtain ⟨m0, m1, m2, m3, m4, m5, m6, m7, m8, m9, -⟩ := k10c hm_
   have rf0 := hr_.free 0
   have rf1 := hr_.free 1
   have rf2 := hr_.free 2
   have rf3 := hr_.free 3
   have rf4 := hr_.free 4
   have mf0 := hm_.free 0
   have mf1 := hm_.free 1
   have mf2 := hm_.free 2
   have mf3 := hm_.free 3
   have mf4 := hm_.free 4
   have mf5 := hm_.free 5
   have mf6 := hm_.free 6
   have mf7 := hm_.free 7
   have mf8 := hm_.free 8
   have mf9 := hm_.free 9
   have ry := hr_.lt
   have my := hm_.lt
   refine start_ (n := 6) (S := fun w' => w'.cell? ⟨nb, 0, none⟩ = some (.bool xn.up) ∧ w'.cell? ⟨nb, 1, none⟩ = some (.int .i64 xn.term) ∧ w'.cell? ⟨nb, 2, none⟩ = some (.bool xn.leads) ∧ w'.cell? ⟨nb, 3, none⟩ = some (.bool xn.alone) ∧ w'.cell? ⟨nb, 4, none⟩ = some (.slice C4 xn.ops.length c4) ∧ w'.cell? ⟨nb + 1, 0, none⟩ = some (.int .i64 0) ∧ w'.cell? ⟨nb + 1, 1, none⟩ = some (.int .i64 0) ∧ w'.cell? ⟨nb + 1, 2, none⟩ = some (.int .i64 0) ∧ w'.cell? ⟨nb + 1, 3, none⟩ = some (.int .i64 0) ∧ w'.cell? ⟨nb + 1, 4, none⟩ = some (.int .i64 0) ∧ w'.cell? ⟨nb + 1, 5, none⟩ = some (.string ⟨#[]⟩) ∧ w'.cell? ⟨nb + 1, 6, none⟩ = some (.string ⟨#[]⟩) ∧ w'.cell? ⟨nb + 1, 7, none⟩ = some (.int .i64 0) ∧ w'.cell? ⟨nb + 1, 8, none⟩ = some (.string ⟨#[]⟩) ∧ w'.cell? ⟨nb + 1, 9, none⟩ = some (.slice none 0 0)) (ds := []) #[F, F, F, F, F, F] (by kernel_rfl) rfl rfl ⟨(blkn (HX.out.bel (Below.refl _ _).drew) 0 _ rfl), (blkn (HX.out.bel (Below.refl _ _).drew) 1 _ rfl), (blkn (HX.out.bel (Below.refl _ _).drew) 2 _ rfl), (blkn (HX.out.bel (Below.refl _ _).drew) 3 _ rfl), (blkn (HX.out.bel (Below.refl _ _).drew) 4 _ rfl), (blkn (HY.out.bel (Below.refl _ _).drew) 0 _ rfl), (blkn (HY.out.bel (Below.refl _ _).drew) 1 _ rfl), (blkn (HY.out.bel (Below.refl _ _).drew) 2 _ rfl), (blkn (HY.out.bel (Below.refl _ _).drew) 3 _ rfl), (blkn (HY.out.bel (Below.refl _ _).drew) 4 _ rfl), (blkn (HY.out.bel (Below.refl _ _).drew) 5 _ rfl), (blkn (HY.out.bel (Below.refl _ _).drew) 6 _ rfl), (blkn (HY.out.bel (Below.refl _ _).drew) 7 _ rfl), (blkn (HY.out.bel (Below.refl _ _).drew) 8 _ rfl), (blkn (HY.out.bel (Below.refl _ _).drew) 9 _ rfl)⟩ (fun hHeld => ?_)
   refine py 2 (some 28) #[F, F, T, F, F, F] ?_
   refine ty 0 (some 26) #[T, F, T, F, F, F] (hS := hHeld) (hz := by rintro w' ⟨s0, s1, s2, s3, s4, s5, s6, s7, s8, s9, s10, s11, s12, s13, s14⟩; go_simp; with_reducible rfl) (h := ?_)
   refine ty 1 (some 27) #[T, T, T, F, F, F] (hS := hHeld) (hz := by rintro w' ⟨s0, s1, s2, s3, s4, s5, s6, s7, s8, s9, s10, s11, s12, s13, s14⟩; go_simp; with_reducible rfl) (h := ?_)
   refine ox 3 none #[T, T, T, T, F, F] fun K hK => ?_
   refine sx ?_
   refine hK.out _ _ ⟨(blkn (HXa.out.bel (Below.refl _ _).drew) 0 _ rfl), (blkn (HXa.out.bel (Below.refl _ _).drew) 1 _ rfl), (blkn (HXa.out.bel (Below.refl _ _).drew) 2 _ rfl), (blkn (HXa.out.bel (Below.refl _ _).drew) 3 _ rfl), (blkn (HXa.out.bel (Below.refl _ _).drew) 4 _ rfl), (blkn (HYa.out.bel (Below.refl _ _).drew) 0 _ rfl), (blkn (HYa.out.bel (Below.refl _ _).drew) 1 _ rfl), (blkn (HYa.out.bel (Below.refl _ _).drew) 2 _ rfl), (blkn (HYa.out.bel (Below.refl _ _).drew) 3 _ rfl), (blkn (HYa.out.bel (Below.refl _ _).drew) 4 _ rfl), (blkn (HYa.out.bel (Below.refl _ _).drew) 5 _ rfl), (blkn (HYa.out.bel (Below.refl _ _).drew) 6 _ rfl), (blkn (HYa.out.bel (Below.refl _ _).drew) 7 _ rfl), (blkn (HYa.out.bel (Below.refl _ _).drew) 8 _ rfl), (blkn (HYa.out.bel (Below.refl _ _).drew) 9 _ rfl)⟩ (fun hHeld => ?_)
   clear hK K
   refine ox 4 none #[T, T, T, T, T, F] fun K hK => ?_
   refine sx ?_
   refine hK.out _ _ ⟨(blkn (HXb.out.bel (Below.refl _ _).drew) 0 _ rfl), (blkn (HXb.out.bel (Below.refl _ _).drew) 1 _ rfl), (blkn (HXb.out.bel (Below.refl _ _).drew) 2 _ rfl), (blkn (HXb.out.bel (Below.refl _ _).drew) 3 _ rfl), (blkn (HXb.out.bel (Below.refl _ _).drew) 4 _ rfl), (blkn (HYb.out.bel (Below.refl _ _).drew) 0 _ rfl), (blkn (HYb.out.bel (Below.refl _ _).drew) 1 _ rfl), (blkn (HYb.out.bel (Below.refl _ _).drew) 2 _ rfl), (blkn (HYb.out.bel (Below.refl _ _).drew) 3 _ rfl), (blkn (HYb.out.bel (Below.refl _ _).drew) 4 _ rfl), (blkn (HYb.out.bel (Below.refl _ _).drew) 5 _ rfl), (blkn (HYb.out.bel (Below.refl _ _).drew) 6 _ rfl), (blkn (HYb.out.bel (Below.refl _ _).drew) 7 _ rfl), (blkn (HYb.out.bel (Below.refl _ _).drew) 8 _ rfl), (blkn (HYb.out.bel (Below.refl _ _).drew) 9 _ rfl)⟩ (fun hHeld => ?_)
   clear hK K
   refine py 5 (some 8) #[T, T, T, T, T, T] ?_
   refine done_ (by kernel_rfl) ?_
   go_wp2
   have h2 := two_new (v1 := [.bool xn.up, .int .i64 xn.term, .bool xn.leads, .bool xn.alone, .slice C4 xn.ops.length c4]) (v2 := [.int .i64 0, .int .i64 0, .int .i64 0, .int .i64 0, .int .i64 0, .string ⟨#[]⟩, .string ⟨#[]⟩, .int .i64 0, .string ⟨#[]⟩, .slice none 0 0]) rfl hr_ hm_ (show w.heap.size + 1 + 1 ≠ w.heap.size + 1 + 1 + 1 by omega) rfl rfl (by decide) (by decide)
   refine bodyPost_ret (results_list (rs := [.cell 6 25, .cell 7 29, .tmp 8]) rfl (by simp) (.cell _ 25 _ (0, 0) _ rfl (h2.b1.bel bel_drew) Tryz.underlying25 rfl (by kernel_rfl) (.cell _ 29 _ (0, 0) _ rfl (h2.b2.bel bel_drew) Tryz.underlying29 rfl (by kernel_rfl) (.tmp .nil)))) rfl ?_
   exact ⟨_, rfl, (h2.ownT hV2).bel bel_drew, grown_tr (h2.grown hG2 (by omega) (by omega)) (grown_of_bel bel_drew _), HAT.out⟩
 ·have hkk : ∀ {α : Type} (a b : α), (if kind = 1 then a else b) = b := fun a b => if_neg k1
  obtain ⟨y, hy⟩ : ∃ y, nayB ⟨up, term, leads, alone, ops⟩ kind mt = y := ⟨_, rfl⟩
  cases y with
  | true =>
   have e1 : hearN ⟨up, term, leads, alone, ops⟩ ⟨kind, whom, mt, mn, op, mops⟩ = ⟨up, term, leads, alone, ops⟩ := by unfold hearN; simp only []; rw [hkk, hy]; rfl
   have e2 : hearB ⟨up, term, leads, alone, ops⟩ ⟨kind, whom, mt, mn, op, mops⟩ = false := by unfold hearB; simp only []; rw [hkk, hy]; rfl
   have e3 : hearM ⟨up, term, leads, alone, ops⟩ id ⟨kind, whom, mt, mn, op, mops⟩ = noM := by unfold hearM; simp only []; rw [hkk, hy]; rfl
   rw [e1, e2, e3]
   clear e1 e2 e3 hkk h hbase ho hso hC hid hr hmn
   by_cases k3 : kind = 3
   ·subst k3
    have hy2 : mt < term ∨ (mt = term ∧ leads = true) := by unfold nayB at hy; simpa using hy
    clear hy
    rcases hy2 with ht | ⟨rfl, rfl⟩
    ·go_enter Tryz.func40, Tryz.ntmps40
     go_wp2
     have hA := (allocs4 w #[.bool up, .int .i64 term, .bool leads, .bool alone, .slice A ops.length c] #[.int .i64 3, .int .i64 whom, .int .i64 mt, .int .i64 mn, .int .i64 op.kind, .string op.name, .string op.dest, .int .i64 op.n, .string op.text, .slice B mops.length bc] #[.bool up, .int .i64 term, .bool leads, .bool alone, .slice A ops.length c] #[.int .i64 0, .int .i64 0, .int .i64 0, .int .i64 0, .int .i64 0, .string ⟨#[]⟩, .string ⟨#[]⟩, .int .i64 0, .string ⟨#[]⟩, .slice none 0 0] 25 29 25 29)
     refine bodyPost_ret (results_list (rs := [.cell 6 25, .cell 7 29, .tmp 8]) rfl (by simp) (.cell (w.heap.size + 1 + 1) 25 #[.bool up, .int .i64 term, .bool leads, .bool alone, .slice A ops.length c] (0, 0) _ rfl hA.2.2.2.1 Tryz.underlying25 rfl (by kernel_rfl) (.cell (w.heap.size + 1 + 1 + 1) 29 #[.int .i64 0, .int .i64 0, .int .i64 0, .int .i64 0, .int .i64 0, .string ⟨#[]⟩, .string ⟨#[]⟩, .int .i64 0, .string ⟨#[]⟩, .slice none 0 0] (0, 0) _ rfl hA.2.2.2.2 Tryz.underlying29 rfl (by kernel_rfl) (.tmp .nil)))) rfl ?_
     exact ⟨_, rfl, HT.out.bel hA.1, grown_of_bel hA.1 _, fun k hk => .inl hk⟩
    ·go_enter Tryz.func40, Tryz.ntmps40
     go_wp2
     have hA := (allocs4 w #[.bool up, .int .i64 mt, .bool true, .bool alone, .slice A ops.length c] #[.int .i64 3, .int .i64 whom, .int .i64 mt, .int .i64 mn, .int .i64 op.kind, .string op.name, .string op.dest, .int .i64 op.n, .string op.text, .slice B mops.length bc] #[.bool up, .int .i64 mt, .bool true, .bool alone, .slice A ops.length c] #[.int .i64 0, .int .i64 0, .int .i64 0, .int .i64 0, .int .i64 0, .string ⟨#[]⟩, .string ⟨#[]⟩, .int .i64 0, .string ⟨#[]⟩, .slice none 0 0] 25 29 25 29)
     refine bodyPost_ret (results_list (rs := [.cell 6 25, .cell 7 29, .tmp 8]) rfl (by simp) (.cell (w.heap.size + 1 + 1) 25 #[.bool up, .int .i64 mt, .bool true, .bool alone, .slice A ops.length c] (0, 0) _ rfl hA.2.2.2.1 Tryz.underlying25 rfl (by kernel_rfl) (.cell (w.heap.size + 1 + 1 + 1) 29 #[.int .i64 0, .int .i64 0, .int .i64 0, .int .i64 0, .int .i64 0, .string ⟨#[]⟩, .string ⟨#[]⟩, .int .i64 0, .string ⟨#[]⟩, .slice none 0 0] (0, 0) _ rfl hA.2.2.2.2 Tryz.underlying29 rfl (by kernel_rfl) (.tmp .nil)))) rfl ?_
     exact ⟨_, rfl, HT.out.bel hA.1, grown_of_bel hA.1 _, fun k hk => .inl hk⟩
   ·clear hy
    go_enter Tryz.func40, Tryz.ntmps40
    go_wp2
    have hA := (allocs4 w #[.bool up, .int .i64 term, .bool leads, .bool alone, .slice A ops.length c] #[.int .i64 kind, .int .i64 whom, .int .i64 mt, .int .i64 mn, .int .i64 op.kind, .string op.name, .string op.dest, .int .i64 op.n, .string op.text, .slice B mops.length bc] #[.bool up, .int .i64 term, .bool leads, .bool alone, .slice A ops.length c] #[.int .i64 0, .int .i64 0, .int .i64 0, .int .i64 0, .int .i64 0, .string ⟨#[]⟩, .string ⟨#[]⟩, .int .i64 0, .string ⟨#[]⟩, .slice none 0 0] 25 29 25 29)
    refine bodyPost_ret (results_list (rs := [.cell 6 25, .cell 7 29, .tmp 8]) rfl (by simp) (.cell (w.heap.size + 1 + 1) 25 #[.bool up, .int .i64 term, .bool leads, .bool alone, .slice A ops.length c] (0, 0) _ rfl hA.2.2.2.1 Tryz.underlying25 rfl (by kernel_rfl) (.cell (w.heap.size + 1 + 1 + 1) 29 #[.int .i64 0, .int .i64 0, .int .i64 0, .int .i64 0, .int .i64 0, .string ⟨#[]⟩, .string ⟨#[]⟩, .int .i64 0, .string ⟨#[]⟩, .slice none 0 0] (0, 0) _ rfl hA.2.2.2.2 Tryz.underlying29 rfl (by kernel_rfl) (.tmp .nil)))) rfl ?_
    exact ⟨_, rfl, HT.out.bel hA.1, grown_of_bel hA.1 _, fun k hk => .inl hk⟩
  | false =>
   have hy3 : kind = 3 ∧ ¬ mt < term ∧ ¬ (mt = term ∧ leads = true) := by unfold nayB at hy; simp at hy; exact ⟨hy.1, by omega, fun ⟨a, b⟩ => by have := hy.2.2 a; rw [b] at this; cases this⟩
   have e2 : hearB ⟨up, term, leads, alone, ops⟩ ⟨kind, whom, mt, mn, op, mops⟩ = true := by unfold hearB; simp only []; rw [hkk, hy]; rfl
   by_cases ht : term < mt
   ·have e1 : hearN ⟨up, term, leads, alone, ops⟩ ⟨kind, whom, mt, mn, op, mops⟩ = ⟨up, mt, false, false, mops⟩ := by unfold hearN; simp only []; rw [hkk, hy]; simp [ht]
    have e3 : hearM ⟨up, term, leads, alone, ops⟩ id ⟨kind, whom, mt, mn, op, mops⟩ = ⟨4, 3 - id, mt, mops.length, noO, []⟩ := by unfold hearM; simp only []; rw [hkk, hy, e1]; rfl
    rw [e1, e2, e3]
    obtain ⟨rfl, hy4, hy5⟩ := hy3
    clear e1 e2 e3 hkk h hbase ho hso hC hid hr hmn hy k1 hy5
    go_enter Tryz.func40, Tryz.ntmps40
    go_wp2_with (
     at_builtin
     obtain ⟨hW, hN, hP, hR, hM⟩ := (allocs4 w #[.bool up, .int .i64 mt, .bool false, .bool false, .slice A ops.length c] #[.int .i64 3, .int .i64 whom, .int .i64 mt, .int .i64 mn, .int .i64 op.kind, .string op.name, .string op.dest, .int .i64 op.n, .string op.text, .slice B mops.length bc] zN_ #[.int .i64 0, .int .i64 0, .int .i64 0, .int .i64 0, .int .i64 0, .string ⟨#[]⟩, .string ⟨#[]⟩, .int .i64 0, .string ⟨#[]⟩, .slice none 0 0] 25 29 25 29)
     have hz : w.heap.size + 1 + 1 + 1 + 1 = (((((w.alloc (.cells #[.bool up, .int .i64 mt, .bool false, .bool false, .slice A ops.length c] 25)).alloc (.cells #[.int .i64 3, .int .i64 whom, .int .i64 mt, .int .i64 mn, .int .i64 op.kind, .string op.name, .string op.dest, .int .i64 op.n, .string op.text, .slice B mops.length bc] 29)).alloc (.cells zN_ 25)).alloc (.cells #[.int .i64 0, .int .i64 0, .int .i64 0, .int .i64 0, .int .i64 0, .string ⟨#[]⟩, .string ⟨#[]⟩, .int .i64 0, .string ⟨#[]⟩, .slice none 0 0] 29))).heap.size := by simp
     generalize ((((w.alloc (.cells #[.bool up, .int .i64 mt, .bool false, .bool false, .slice A ops.length c] 25)).alloc (.cells #[.int .i64 3, .int .i64 whom, .int .i64 mt, .int .i64 mn, .int .i64 op.kind, .string op.name, .string op.dest, .int .i64 op.n, .string op.text, .slice B mops.length bc] 29)).alloc (.cells zN_ 25)).alloc (.cells #[.int .i64 0, .int .i64 0, .int .i64 0, .int .i64 0, .int .i64 0, .string ⟨#[]⟩, .string ⟨#[]⟩, .int .i64 0, .string ⟨#[]⟩, .slice none 0 0] 29)) = W0 at hW hN hP hR hM hz ⊢
     rw [hz]
     refine Kd.R_append_rows kOp (w0 := W0) W0.heap.size rfl (.tmp 70) (.tmp 72) 23 27 (.agg #[.int .i64 0, .string ⟨#[]⟩, .string ⟨#[]⟩, .int .i64 0, .string ⟨#[]⟩]) 64 rfl Tryz.underlying23 info_opR rfl (by decide) (by decide) _ [] mops _ _ _ (fun _ => True) (fun _ => False) rfl rfl (R_emptyO W0 W0.heap.size (Nat.le_refl _)) (Kd.C_alloc (kOp_keep HMC.out hW) _) (fun x cs h => by obtain rfl := kOp_open h; exact kOp_mkM _ _ _ x) (fun _ h => h.elim) (fun _ _ => trivial) ?a2 ?a3 ?a4 ?_
     case a2 => exact bel_alloc (Below.refl _ _) _
     case a3 => simp
     case a4 => simp; omega
     intro v w1 hoR hb1 hg hat
     have ho : OwnO w1 W0.heap.size v mops := ownO_of_R hoR
     have hw1 := hW.tr hb1
     have HN1 := Lib.hid (hN.bel hb1)
     have HR1 := Lib.hid (hR.bel hb1)
     have HM1 := Lib.hid (hM.bel hb1)
     have HW1 := Lib.hid hw1
     have HBA := Lib.hid (show ∀ k, v.ownBlock = some k → w.heap.size ≤ k from fun k hk => Nat.le_trans hW.size (own_base ho k hk))
     have HV1 := Lib.hid (show OwnO w1 w.heap.size v mops from own_lower ho hW.size)
     obtain ⟨C4, c4, rfl, hd, hCd⟩ := ho.reads
     clear hW hN hP hR hM hz hoR hb1 hg hat ho hw1 hd hCd
     have b0 := blkn HN1.out 0 _ rfl
     have b1 := blkn HN1.out 1 _ rfl
     have b2 := blkn HN1.out 2 _ rfl
     have b3 := blkn HN1.out 3 _ rfl
     have b4 := blkn HN1.out 4 _ rfl
     have bf4 := HN1.out.free 4
     have by_ := HN1.out.lt)
    clear b0 b1 b2 b3 b4 bf4 by_
    have hN2 := HN1.out.set 4 (.slice C4 mops.length c4) (cs' := #[.bool up, .int .i64 mt, .bool false, .bool false, .slice C4 mops.length c4]) rfl
    have hR2 := HR1.out.apart (show ¬ w.heap.size = w.heap.size + 1 + 1 by omega) 4 (.slice C4 mops.length c4)
    have hM2 := HM1.out.apart (show ¬ w.heap.size = w.heap.size + 1 + 1 + 1 by omega) 4 (.slice C4 mops.length c4)
    have hV2 := (OwnO.tail (HV1.out.far HN1.out (by decide) 4 (.slice C4 mops.length c4))).lower HBS.out
    have hG2 := grown_of_bel (bel_set HW1.out (Nat.le_refl _) 4 (.slice C4 mops.length c4)) (Value.slice A ops.length c).ownBlock
    generalize (w1.setCell ⟨w.heap.size, 4, none⟩ (.slice C4 mops.length c4)) = W2 at hN2 hR2 hM2 hV2 hG2 ⊢
    have HN := Lib.hid hN2
    clear hN2 HN1 HR1 HM1 HW1 HV1
    have hq0 : w.heap.size + 1 + 1 ≠ w.heap.size := by omega
    have HNa := Lib.hid (HN.out.apart5 hq0 (.bool up) (.int .i64 mt) (.bool false) (.bool false) (.slice C4 mops.length c4))
    have hr_ := hR2
    have hm_ := hM2
    obtain ⟨r0, r1, r2, r3, r4, -⟩ := k5c hr_
    obtain ⟨m0, m1, m2, m3, m4, m5, m6, m7, m8, m9, -⟩ := k10c hm_
    have rf0 := hr_.free 0
    have rf1 := hr_.free 1
    have rf2 := hr_.free 2
    have rf3 := hr_.free 3
    have rf4 := hr_.free 4
    have mf0 := hm_.free 0
    have mf1 := hm_.free 1
    have mf2 := hm_.free 2
    have mf3 := hm_.free 3
    have mf4 := hm_.free 4
    have mf5 := hm_.free 5
    have mf6 := hm_.free 6
    have mf7 := hm_.free 7
    have mf8 := hm_.free 8
    have mf9 := hm_.free 9
    have ry := hr_.lt
    have my := hm_.lt
    refine start_ (n := 12) (S := fun w' => w'.cell? ⟨w.heap.size, 0, none⟩ = some (.bool up) ∧ w'.cell? ⟨w.heap.size, 1, none⟩ = some (.int .i64 mt) ∧ w'.cell? ⟨w.heap.size, 2, none⟩ = some (.bool false) ∧ w'.cell? ⟨w.heap.size, 3, none⟩ = some (.bool false) ∧ w'.cell? ⟨w.heap.size, 4, none⟩ = some (.slice C4 mops.length c4)) (ds := [10]) #[F, F, F, F, F, F, F, F, F, F, F, F] (by kernel_rfl) rfl rfl ⟨(blkn (HN.out.bel (Below.refl _ _).drew) 0 _ rfl), (blkn (HN.out.bel (Below.refl _ _).drew) 1 _ rfl), (blkn (HN.out.bel (Below.refl _ _).drew) 2 _ rfl), (blkn (HN.out.bel (Below.refl _ _).drew) 3 _ rfl), (blkn (HN.out.bel (Below.refl _ _).drew) 4 _ rfl)⟩ (fun hHeld => ?_)
    refine py 1 (some 76) #[F, T, F, F, F, F, F, F, F, F, F, F] ?_
    refine py 2 (some 77) #[F, T, T, F, F, F, F, F, F, F, F, F] ?_
    refine py 3 (some 78) #[F, T, T, T, F, F, F, F, F, F, F, F] ?_
    refine py 5 (some 80) #[F, T, T, T, F, T, F, F, F, F, F, F] ?_
    refine ty 0 (some 75) #[T, T, T, T, F, T, F, F, F, F, F, F] (hS := hHeld) (hz := by rintro w' ⟨s0, s1, s2, s3, s4⟩; go_simp; with_reducible rfl) (h := ?_)
    refine ty 4 (some 79) #[T, T, T, T, T, T, F, F, F, F, F, F] (hS := hHeld) (hz := by rintro w' ⟨s0, s1, s2, s3, s4⟩; go_simp; with_reducible rfl) (h := ?_)
    refine ty 6 (some 81) #[T, T, T, T, T, T, T, F, F, F, F, F] (hS := hHeld) (hz := by rintro w' ⟨s0, s1, s2, s3, s4⟩; go_simp; with_reducible rfl) (h := ?_)
    refine py 7 (some 82) #[T, T, T, T, T, T, T, T, F, F, F, F] ?_
    refine py 8 (some 83) #[T, T, T, T, T, T, T, T, T, F, F, F] ?_
    refine ox 9 none #[T, T, T, T, T, T, T, T, T, T, F, F] fun K hK => ?_
    refine sx ?_
    refine hK.out _ _ ⟨(blkn (HNa.out.bel (Below.refl _ _).drew) 0 _ rfl), (blkn (HNa.out.bel (Below.refl _ _).drew) 1 _ rfl), (blkn (HNa.out.bel (Below.refl _ _).drew) 2 _ rfl), (blkn (HNa.out.bel (Below.refl _ _).drew) 3 _ rfl), (blkn (HNa.out.bel (Below.refl _ _).drew) 4 _ rfl)⟩ (fun hHeld => ?_)
    clear hK K
    refine lx 10 none #[T, T, T, T, T, T, T, T, T, T, T, F] fun K hK => ?_
    refine sx ?_
    refine hK.out _ _ ?_
    clear hK K
    refine py 11 (some 8) #[T, T, T, T, T, T, T, T, T, T, T, T] ?_
    refine done_ (by kernel_rfl) ?_
    go_wp2
    have h2 := two_new (v1 := [.bool up, .int .i64 mt, .bool false, .bool false, .slice C4 mops.length c4]) (v2 := [.int .i64 4, .int .i64 (3 - id), .int .i64 mt, .int .i64 mops.length, .int .i64 0, .string ⟨#[]⟩, .string ⟨#[]⟩, .int .i64 0, .string ⟨#[]⟩, .slice none 0 0]) rfl hr_ hm_ (show w.heap.size + 1 + 1 ≠ w.heap.size + 1 + 1 + 1 by omega) rfl rfl (by decide) (by decide)
    refine bodyPost_ret (results_list (rs := [.cell 6 25, .cell 7 29, .tmp 8]) rfl (by simp) (.cell _ 25 _ (0, 0) _ rfl (h2.b1.bel bel_drew) Tryz.underlying25 rfl (by kernel_rfl) (.cell _ 29 _ (0, 0) _ rfl (h2.b2.bel bel_drew) Tryz.underlying29 rfl (by kernel_rfl) (.tmp .nil)))) rfl ?_
    exact ⟨_, rfl, (h2.ownT hV2).bel bel_drew, grown_tr (h2.grown hG2 (by omega) (by omega)) (grown_of_bel bel_drew _), fun k hk => .inr (HBA.out k hk)⟩
   ·obtain ⟨rfl, hy4, hy5⟩ := hy3
    obtain rfl : mt = term := by omega
    obtain rfl : leads = false := by cases leads with | false => rfl | true => exact absurd ⟨rfl, rfl⟩ hy5
    by_cases ht2 : (ops.length : Int) < mn
    ·have e1 : hearN ⟨up, mt, false, alone, ops⟩ ⟨3, whom, mt, mn, op, mops⟩ = ⟨up, mt, false, false, mops⟩ := by unfold hearN; simp only []; rw [hkk, hy]; simp [ht2]
     have e3 : hearM ⟨up, mt, false, alone, ops⟩ id ⟨3, whom, mt, mn, op, mops⟩ = ⟨4, 3 - id, mt, mops.length, noO, []⟩ := by unfold hearM; simp only []; rw [hkk, hy, e1]; rfl
     rw [e1, e2, e3]
     clear e1 e2 e3 hkk h hbase ho hso hC hid hr hmn hy k1 hy5 hy4 ht
     go_enter Tryz.func40, Tryz.ntmps40
     go_wp2_with (
      at_builtin
      obtain ⟨hW, hN, hP, hR, hM⟩ := (allocs4 w #[.bool up, .int .i64 mt, .bool false, .bool false, .slice A ops.length c] #[.int .i64 3, .int .i64 whom, .int .i64 mt, .int .i64 mn, .int .i64 op.kind, .string op.name, .string op.dest, .int .i64 op.n, .string op.text, .slice B mops.length bc] zN_ #[.int .i64 0, .int .i64 0, .int .i64 0, .int .i64 0, .int .i64 0, .string ⟨#[]⟩, .string ⟨#[]⟩, .int .i64 0, .string ⟨#[]⟩, .slice none 0 0] 25 29 25 29)
      have hz : w.heap.size + 1 + 1 + 1 + 1 = (((((w.alloc (.cells #[.bool up, .int .i64 mt, .bool false, .bool false, .slice A ops.length c] 25)).alloc (.cells #[.int .i64 3, .int .i64 whom, .int .i64 mt, .int .i64 mn, .int .i64 op.kind, .string op.name, .string op.dest, .int .i64 op.n, .string op.text, .slice B mops.length bc] 29)).alloc (.cells zN_ 25)).alloc (.cells #[.int .i64 0, .int .i64 0, .int .i64 0, .int .i64 0, .int .i64 0, .string ⟨#[]⟩, .string ⟨#[]⟩, .int .i64 0, .string ⟨#[]⟩, .slice none 0 0] 29))).heap.size := by simp
      generalize ((((w.alloc (.cells #[.bool up, .int .i64 mt, .bool false, .bool false, .slice A ops.length c] 25)).alloc (.cells #[.int .i64 3, .int .i64 whom, .int .i64 mt, .int .i64 mn, .int .i64 op.kind, .string op.name, .string op.dest, .int .i64 op.n, .string op.text, .slice B mops.length bc] 29)).alloc (.cells zN_ 25)).alloc (.cells #[.int .i64 0, .int .i64 0, .int .i64 0, .int .i64 0, .int .i64 0, .string ⟨#[]⟩, .string ⟨#[]⟩, .int .i64 0, .string ⟨#[]⟩, .slice none 0 0] 29)) = W0 at hW hN hP hR hM hz ⊢
      rw [hz]
      refine Kd.R_append_rows kOp (w0 := W0) W0.heap.size rfl (.tmp 70) (.tmp 72) 23 27 (.agg #[.int .i64 0, .string ⟨#[]⟩, .string ⟨#[]⟩, .int .i64 0, .string ⟨#[]⟩]) 64 rfl Tryz.underlying23 info_opR rfl (by decide) (by decide) _ [] mops _ _ _ (fun _ => True) (fun _ => False) rfl rfl (R_emptyO W0 W0.heap.size (Nat.le_refl _)) (Kd.C_alloc (kOp_keep HMC.out hW) _) (fun x cs h => by obtain rfl := kOp_open h; exact kOp_mkM _ _ _ x) (fun _ h => h.elim) (fun _ _ => trivial) ?a2 ?a3 ?a4 ?_
      case a2 => exact bel_alloc (Below.refl _ _) _
      case a3 => simp
      case a4 => simp; omega
      intro v w1 hoR hb1 hg hat
      have ho : OwnO w1 W0.heap.size v mops := ownO_of_R hoR
      have hw1 := hW.tr hb1
      have HN1 := Lib.hid (hN.bel hb1)
      have HR1 := Lib.hid (hR.bel hb1)
      have HM1 := Lib.hid (hM.bel hb1)
      have HW1 := Lib.hid hw1
      have HBA := Lib.hid (show ∀ k, v.ownBlock = some k → w.heap.size ≤ k from fun k hk => Nat.le_trans hW.size (own_base ho k hk))
      have HV1 := Lib.hid (show OwnO w1 w.heap.size v mops from own_lower ho hW.size)
      obtain ⟨C4, c4, rfl, hd, hCd⟩ := ho.reads
      clear hW hN hP hR hM hz hoR hb1 hg hat ho hw1 hd hCd
      have b0 := blkn HN1.out 0 _ rfl
      have b1 := blkn HN1.out 1 _ rfl
      have b2 := blkn HN1.out 2 _ rfl
      have b3 := blkn HN1.out 3 _ rfl
      have b4 := blkn HN1.out 4 _ rfl
      have bf4 := HN1.out.free 4
      have by_ := HN1.out.lt)
     clear b0 b1 b2 b3 b4 bf4 by_
     have hN2 := HN1.out.set 4 (.slice C4 mops.length c4) (cs' := #[.bool up, .int .i64 mt, .bool false, .bool false, .slice C4 mops.length c4]) rfl
     have hR2 := HR1.out.apart (show ¬ w.heap.size = w.heap.size + 1 + 1 by omega) 4 (.slice C4 mops.length c4)
     have hM2 := HM1.out.apart (show ¬ w.heap.size = w.heap.size + 1 + 1 + 1 by omega) 4 (.slice C4 mops.length c4)
     have hV2 := (OwnO.tail (HV1.out.far HN1.out (by decide) 4 (.slice C4 mops.length c4))).lower HBS.out
     have hG2 := grown_of_bel (bel_set HW1.out (Nat.le_refl _) 4 (.slice C4 mops.length c4)) (Value.slice A ops.length c).ownBlock
     generalize (w1.setCell ⟨w.heap.size, 4, none⟩ (.slice C4 mops.length c4)) = W2 at hN2 hR2 hM2 hV2 hG2 ⊢
     have HN := Lib.hid hN2
     clear hN2 HN1 HR1 HM1 HW1 HV1
     have hq0 : w.heap.size + 1 + 1 ≠ w.heap.size := by omega
     have HNa := Lib.hid (HN.out.apart5 hq0 (.bool up) (.int .i64 mt) (.bool false) (.bool false) (.slice C4 mops.length c4))
     have hr_ := hR2
     have hm_ := hM2
     obtain ⟨r0, r1, r2, r3, r4, -⟩ := k5c hr_
     obtain ⟨m0, m1, m2, m3, m4, m5, m6, m7, m8, m9, -⟩ := k10c hm_
     have rf0 := hr_.free 0
     have rf1 := hr_.free 1
     have rf2 := hr_.free 2
     have rf3 := hr_.free 3
     have rf4 := hr_.free 4
     have mf0 := hm_.free 0
     have mf1 := hm_.free 1
     have mf2 := hm_.free 2
     have mf3 := hm_.free 3
     have mf4 := hm_.free 4
     have mf5 := hm_.free 5
     have mf6 := hm_.free 6
     have mf7 := hm_.free 7
     have mf8 := hm_.free 8
     have mf9 := hm_.free 9
     have ry := hr_.lt
     have my := hm_.lt
     refine start_ (n := 12) (S := fun w' => w'.cell? ⟨w.heap.size, 0, none⟩ = some (.bool up) ∧ w'.cell? ⟨w.heap.size, 1, none⟩ = some (.int .i64 mt) ∧ w'.cell? ⟨w.heap.size, 2, none⟩ = some (.bool false) ∧ w'.cell? ⟨w.heap.size, 3, none⟩ = some (.bool false) ∧ w'.cell? ⟨w.heap.size, 4, none⟩ = some (.slice C4 mops.length c4)) (ds := [10]) #[F, F, F, F, F, F, F, F, F, F, F, F] (by kernel_rfl) rfl rfl ⟨(blkn (HN.out.bel (Below.refl _ _).drew) 0 _ rfl), (blkn (HN.out.bel (Below.refl _ _).drew) 1 _ rfl), (blkn (HN.out.bel (Below.refl _ _).drew) 2 _ rfl), (blkn (HN.out.bel (Below.refl _ _).drew) 3 _ rfl), (blkn (HN.out.bel (Below.refl _ _).drew) 4 _ rfl)⟩ (fun hHeld => ?_)
     refine py 1 (some 76) #[F, T, F, F, F, F, F, F, F, F, F, F] ?_
     refine py 2 (some 77) #[F, T, T, F, F, F, F, F, F, F, F, F] ?_
     refine py 3 (some 78) #[F, T, T, T, F, F, F, F, F, F, F, F] ?_
     refine py 5 (some 80) #[F, T, T, T, F, T, F, F, F, F, F, F] ?_
     refine ty 0 (some 75) #[T, T, T, T, F, T, F, F, F, F, F, F] (hS := hHeld) (hz := by rintro w' ⟨s0, s1, s2, s3, s4⟩; go_simp; with_reducible rfl) (h := ?_)
     refine ty 4 (some 79) #[T, T, T, T, T, T, F, F, F, F, F, F] (hS := hHeld) (hz := by rintro w' ⟨s0, s1, s2, s3, s4⟩; go_simp; with_reducible rfl) (h := ?_)
     refine ty 6 (some 81) #[T, T, T, T, T, T, T, F, F, F, F, F] (hS := hHeld) (hz := by rintro w' ⟨s0, s1, s2, s3, s4⟩; go_simp; with_reducible rfl) (h := ?_)
     refine py 7 (some 82) #[T, T, T, T, T, T, T, T, F, F, F, F] ?_
     refine py 8 (some 83) #[T, T, T, T, T, T, T, T, T, F, F, F] ?_
     refine ox 9 none #[T, T, T, T, T, T, T, T, T, T, F, F] fun K hK => ?_
     refine sx ?_
     refine hK.out _ _ ⟨(blkn (HNa.out.bel (Below.refl _ _).drew) 0 _ rfl), (blkn (HNa.out.bel (Below.refl _ _).drew) 1 _ rfl), (blkn (HNa.out.bel (Below.refl _ _).drew) 2 _ rfl), (blkn (HNa.out.bel (Below.refl _ _).drew) 3 _ rfl), (blkn (HNa.out.bel (Below.refl _ _).drew) 4 _ rfl)⟩ (fun hHeld => ?_)
     clear hK K
     refine lx 10 none #[T, T, T, T, T, T, T, T, T, T, T, F] fun K hK => ?_
     refine sx ?_
     refine hK.out _ _ ?_
     clear hK K
     refine py 11 (some 8) #[T, T, T, T, T, T, T, T, T, T, T, T] ?_
     refine done_ (by kernel_rfl) ?_
     go_wp2
     have h2 := two_new (v1 := [.bool up, .int .i64 mt, .bool false, .bool false, .slice C4 mops.length c4]) (v2 := [.int .i64 4, .int .i64 (3 - id), .int .i64 mt, .int .i64 mops.length, .int .i64 0, .string ⟨#[]⟩, .string ⟨#[]⟩, .int .i64 0, .string ⟨#[]⟩, .slice none 0 0]) rfl hr_ hm_ (show w.heap.size + 1 + 1 ≠ w.heap.size + 1 + 1 + 1 by omega) rfl rfl (by decide) (by decide)
     refine bodyPost_ret (results_list (rs := [.cell 6 25, .cell 7 29, .tmp 8]) rfl (by simp) (.cell _ 25 _ (0, 0) _ rfl (h2.b1.bel bel_drew) Tryz.underlying25 rfl (by kernel_rfl) (.cell _ 29 _ (0, 0) _ rfl (h2.b2.bel bel_drew) Tryz.underlying29 rfl (by kernel_rfl) (.tmp .nil)))) rfl ?_
     exact ⟨_, rfl, (h2.ownT hV2).bel bel_drew, grown_tr (h2.grown hG2 (by omega) (by omega)) (grown_of_bel bel_drew _), fun k hk => .inr (HBA.out k hk)⟩
    ·have e1 : hearN ⟨up, mt, false, alone, ops⟩ ⟨3, whom, mt, mn, op, mops⟩ = ⟨up, mt, false, alone, ops⟩ := by unfold hearN; simp only []; rw [hkk, hy]; simp [ht2]
     have e3 : hearM ⟨up, mt, false, alone, ops⟩ id ⟨3, whom, mt, mn, op, mops⟩ = ⟨4, 3 - id, mt, ops.length, noO, []⟩ := by unfold hearM; simp only []; rw [hkk, hy, e1]; rfl
     rw [e1, e2, e3]
     clear e1 e2 e3 hkk h hbase ho hso hC hid hr hmn hy k1 hy5 hy4 ht
     go_enter Tryz.func40, Tryz.ntmps40
     go_wp2
     obtain ⟨hW, hN, hP, hR, hM⟩ := (allocs4 w #[.bool up, .int .i64 mt, .bool false, .bool alone, .slice A ops.length c] #[.int .i64 3, .int .i64 whom, .int .i64 mt, .int .i64 mn, .int .i64 op.kind, .string op.name, .string op.dest, .int .i64 op.n, .string op.text, .slice B mops.length bc] zN_ #[.int .i64 0, .int .i64 0, .int .i64 0, .int .i64 0, .int .i64 0, .string ⟨#[]⟩, .string ⟨#[]⟩, .int .i64 0, .string ⟨#[]⟩, .slice none 0 0] 25 29 25 29)
     generalize ((((w.alloc (.cells #[.bool up, .int .i64 mt, .bool false, .bool alone, .slice A ops.length c] 25)).alloc (.cells #[.int .i64 3, .int .i64 whom, .int .i64 mt, .int .i64 mn, .int .i64 op.kind, .string op.name, .string op.dest, .int .i64 op.n, .string op.text, .slice B mops.length bc] 29)).alloc (.cells zN_ 25)).alloc (.cells #[.int .i64 0, .int .i64 0, .int .i64 0, .int .i64 0, .int .i64 0, .string ⟨#[]⟩, .string ⟨#[]⟩, .int .i64 0, .string ⟨#[]⟩, .slice none 0 0] 29)) = W0 at hW hN hP hR hM ⊢
     have hR2 := hR
     have hM2 := hM
     have hV2 := HT.out.bel hW
     have hG2 := grown_of_bel hW (Value.slice A ops.length c).ownBlock
     have HN := Lib.hid hN
     clear hN hP hR hM hW
     have hq0 : w.heap.size + 1 + 1 ≠ w.heap.size := by omega
     have HNa := Lib.hid (HN.out.apart5 hq0 (.bool up) (.int .i64 mt) (.bool false) (.bool alone) (.slice A ops.length c))
     have hr_ := hR2
     have hm_ := hM2
     obtain ⟨r0, r1, r2, r3, r4, -⟩ := k5c hr_
     obtain ⟨m0, m1, m2, m3, m4, m5, m6, m7, m8, m9, -⟩ := k10c hm_
     have rf0 := hr_.free 0
     have rf1 := hr_.free 1
     have rf2 := hr_.free 2
     have rf3 := hr_.free 3
     have rf4 := hr_.free 4
     have mf0 := hm_.free 0
     have mf1 := hm_.free 1
     have mf2 := hm_.free 2
     have mf3 := hm_.free 3
     have mf4 := hm_.free 4
     have mf5 := hm_.free 5
     have mf6 := hm_.free 6
     have mf7 := hm_.free 7
     have mf8 := hm_.free 8
     have mf9 := hm_.free 9
     have ry := hr_.lt
     have my := hm_.lt
     refine start_ (n := 12) (S := fun w' => w'.cell? ⟨w.heap.size, 0, none⟩ = some (.bool up) ∧ w'.cell? ⟨w.heap.size, 1, none⟩ = some (.int .i64 mt) ∧ w'.cell? ⟨w.heap.size, 2, none⟩ = some (.bool false) ∧ w'.cell? ⟨w.heap.size, 3, none⟩ = some (.bool alone) ∧ w'.cell? ⟨w.heap.size, 4, none⟩ = some (.slice A ops.length c)) (ds := [10]) #[F, F, F, F, F, F, F, F, F, F, F, F] (by kernel_rfl) rfl rfl ⟨(blkn (HN.out.bel (Below.refl _ _).drew) 0 _ rfl), (blkn (HN.out.bel (Below.refl _ _).drew) 1 _ rfl), (blkn (HN.out.bel (Below.refl _ _).drew) 2 _ rfl), (blkn (HN.out.bel (Below.refl _ _).drew) 3 _ rfl), (blkn (HN.out.bel (Below.refl _ _).drew) 4 _ rfl)⟩ (fun hHeld => ?_)
     refine py 1 (some 76) #[F, T, F, F, F, F, F, F, F, F, F, F] ?_
     refine py 2 (some 77) #[F, T, T, F, F, F, F, F, F, F, F, F] ?_
     refine py 3 (some 78) #[F, T, T, T, F, F, F, F, F, F, F, F] ?_
     refine py 5 (some 80) #[F, T, T, T, F, T, F, F, F, F, F, F] ?_
     refine ty 0 (some 75) #[T, T, T, T, F, T, F, F, F, F, F, F] (hS := hHeld) (hz := by rintro w' ⟨s0, s1, s2, s3, s4⟩; go_simp; with_reducible rfl) (h := ?_)
     refine ty 4 (some 79) #[T, T, T, T, T, T, F, F, F, F, F, F] (hS := hHeld) (hz := by rintro w' ⟨s0, s1, s2, s3, s4⟩; go_simp; with_reducible rfl) (h := ?_)
     refine ty 6 (some 81) #[T, T, T, T, T, T, T, F, F, F, F, F] (hS := hHeld) (hz := by rintro w' ⟨s0, s1, s2, s3, s4⟩; go_simp; with_reducible rfl) (h := ?_)
     refine py 7 (some 82) #[T, T, T, T, T, T, T, T, F, F, F, F] ?_
     refine py 8 (some 83) #[T, T, T, T, T, T, T, T, T, F, F, F] ?_
     refine ox 9 none #[T, T, T, T, T, T, T, T, T, T, F, F] fun K hK => ?_
     refine sx ?_
     refine hK.out _ _ ⟨(blkn (HNa.out.bel (Below.refl _ _).drew) 0 _ rfl), (blkn (HNa.out.bel (Below.refl _ _).drew) 1 _ rfl), (blkn (HNa.out.bel (Below.refl _ _).drew) 2 _ rfl), (blkn (HNa.out.bel (Below.refl _ _).drew) 3 _ rfl), (blkn (HNa.out.bel (Below.refl _ _).drew) 4 _ rfl)⟩ (fun hHeld => ?_)
     clear hK K
     refine lx 10 none #[T, T, T, T, T, T, T, T, T, T, T, F] fun K hK => ?_
     refine sx ?_
     refine hK.out _ _ ?_
     clear hK K
     refine py 11 (some 8) #[T, T, T, T, T, T, T, T, T, T, T, T] ?_
     refine done_ (by kernel_rfl) ?_
     go_wp2
     have h2 := two_new (v1 := [.bool up, .int .i64 mt, .bool false, .bool alone, .slice A ops.length c]) (v2 := [.int .i64 4, .int .i64 (3 - id), .int .i64 mt, .int .i64 ops.length, .int .i64 0, .string ⟨#[]⟩, .string ⟨#[]⟩, .int .i64 0, .string ⟨#[]⟩, .slice none 0 0]) rfl hr_ hm_ (show w.heap.size + 1 + 1 ≠ w.heap.size + 1 + 1 + 1 by omega) rfl rfl (by decide) (by decide)
     refine bodyPost_ret (results_list (rs := [.cell 6 25, .cell 7 29, .tmp 8]) rfl (by simp) (.cell _ 25 _ (0, 0) _ rfl (h2.b1.bel bel_drew) Tryz.underlying25 rfl (by kernel_rfl) (.cell _ 29 _ (0, 0) _ rfl (h2.b2.bel bel_drew) Tryz.underlying29 rfl (by kernel_rfl) (.tmp .nil)))) rfl ?_
     exact ⟨_, rfl, (h2.ownT hV2).bel bel_drew, grown_tr (h2.grown hG2 (by omega) (by omega)) (grown_of_bel bel_drew _), fun k hk => .inl hk⟩
end
structure Chg (w w' : World) (b : Nat) (r : Option Nat) : Prop where
  os : w'.os = w.os
  tape : w'.tape = w.tape
  output : w'.output = w.output
  size : w.heap.size ≤ w'.heap.size
  block : ∀ k, k < w.heap.size → k ≠ b → some k ≠ r → w'.heap[k]? = w.heap[k]?
theorem Chg.of_bel {w w' : World} {b : Nat} {r : Option Nat} (h : Bel w w') : Chg w w' b r := ⟨h.os, h.tape, h.output, h.size, fun k hk _ _ => h.block k hk⟩
theorem Chg.set {w w' : World} {b : Nat} {r : Option Nat} (h : Chg w w' b r) (i : Nat) (u : Value) : Chg w (w'.setCell ⟨b, i, none⟩ u) b r :=
 ⟨h.os, h.tape, h.output, by simp [h.size], fun k hk hb hr => by
  have e : b ≠ k := fun e => hb e.symm
  have := h.block k hk hb hr
  simpa [World.setCell, Array.getElem?_modify, e] using this⟩
structure LV where
  m : Msg
  A : Option Addr
  c : Nat
abbrev wC (a0 : Nat) (a1 a2 : Int) (a3 : Bool) (a4 : Option Addr) (a5 : List LV) (a6 : Nat) (a7 : Option Addr) (a8 : List Op) (a9 : Nat) : Array Value := #[.slice (some ⟨a0, 0, none⟩) 2 2, .int .i64 a1, .int .i64 a2, .bool a3, .slice a4 a5.length a6, .slice a7 a8.length a9]
structure NVl where
  n : Node
  A : Option Addr
  c : Nat
def LV.sl (x : LV) : Value := .slice x.A x.m.ops.length x.c
def NVl.sl (x : NVl) : Value := .slice x.A x.n.ops.length x.c
def encM (x : LV) : List Value := [.int .i64 x.m.kind, .int .i64 x.m.whom, .int .i64 x.m.term, .int .i64 x.m.n, .int .i64 x.m.op.kind, .string x.m.op.name, .string x.m.op.dest, .int .i64 x.m.op.n, .string x.m.op.text, .slice x.A x.m.ops.length x.c]
def encN (x : NVl) : List Value := [.bool x.n.up, .int .i64 x.n.term, .bool x.n.leads, .bool x.n.alone, .slice x.A x.n.ops.length x.c]
theorem encM_len (x : LV) : (encM x).length = 10 := rfl
def OwnM (w : World) (base : Nat) (v : Value) (xs : List LV) : Prop := w.ownsRow base 29 10 v xs.length (xs.flatMap encM)
theorem OwnM.bel {w w' : World} {base : Nat} {v : Value} {xs : List LV} (h : OwnM w base v xs) (hb : Bel w w') : OwnM w' base v xs := pw_own_below h hb
theorem OwnM.kept {w w' : World} {base : Nat} {v : Value} {xs : List LV} {r : Option Nat} (h : OwnM w base v xs) (hg : w.grownBy w' r) (hne : v.ownBlock = none ∨ v.ownBlock ≠ r) : OwnM w' base v xs := World.ownsRow.kept h hg hne
structure LOk (w : World) (base : Nat) (x : LV) : Prop where
  own : OwnT w base x.sl x.m.ops
  ops : SmallOs x.m.ops
  op : SmallO x.m.op
  run : (runP newP x.m.ops).isSome = true
  whom : x.m.whom = 1 ∨ x.m.whom = 2
  n : x.m.kind = 1 → 1 ≤ x.m.n ∧ x.m.n ≤ 20
  len : x.m.ops.length ≤ 20
structure NOk (w : World) (base : Nat) (x : NVl) : Prop where
  own : OwnT w base x.sl x.n.ops
  ops : SmallOs x.n.ops
  run : (runP newP x.n.ops).isSome = true
  len : x.n.ops.length ≤ 20
theorem LOk.bel {w w' : World} {base : Nat} {x : LV} (h : LOk w base x) (hb : Bel w w') : LOk w' base x := ⟨h.own.bel hb, h.ops, h.op, h.run, h.whom, h.n, h.len⟩
theorem LOk.kept {w w' : World} {base : Nat} {x : LV} {r : Option Nat} (h : LOk w base x) (hg : w.grownBy w' r) (hne : ∀ k, x.sl.ownBlock = some k → r ≠ some k) : LOk w' base x := ⟨h.own.kept hg hne, h.ops, h.op, h.run, h.whom, h.n, h.len⟩
theorem NOk.bel {w w' : World} {base : Nat} {x : NVl} (h : NOk w base x) (hb : Bel w w') : NOk w' base x := ⟨h.own.bel hb, h.ops, h.run, h.len⟩
theorem NOk.kept {w w' : World} {base : Nat} {x : NVl} {r : Option Nat} (h : NOk w base x) (hg : w.grownBy w' r) (hne : ∀ k, x.sl.ownBlock = some k → r ≠ some k) : NOk w' base x := ⟨h.own.kept hg hne, h.ops, h.run, h.len⟩
def Apt (v u : Value) : Prop := ∀ k, v.ownBlock = some k → u.ownBlock ≠ some k
theorem Apt.symm {v u : Value} (h : Apt v u) : Apt u v := fun k hk hv => h k hv hk
theorem Apt.new {w : World} {base : Nat} {v u : Value} {os : List Op} (h : OwnT w base v os) (hu : ∀ k, u.ownBlock = some k → w.heap.size ≤ k) : Apt v u := fun k hk e => by
 have h1 := (h.base k hk).2.1
 have h2 := hu k e
 omega
def DoneP (w : World) (G V : Option Addr) (gn gc vn vc : Nat) (term lead : Int) (both : Bool) (D : Option Addr) (dc : Nat) (ds : List Op) (e : Ending) (w' : World) : Prop :=
 ∃ (E : Option Addr) (f : Nat) (tk : List Op), e = .returned (.agg #[.slice G gn gc, .int .i64 term, .int .i64 lead, .bool both, .slice V vn vc, .slice E tk.length f]) ∧ Bel w w' ∧ tk.length ≤ 20 ∧ ((E = D ∧ f = dc ∧ tk = ds) ∨ OwnO w' w.heap.size (.slice E tk.length f) tk)
section
variable {w : World} {A G V D : Option Addr} {c gn gc vn vc dc : Nat} {n : Node} {term lead many : Int} {both : Bool} {ds : List Op}
theorem l22Done_c (hC : kOp.C w A n.ops.length n.ops) (hcap : n.ops.length ≤ c) (hl : n.ops.length ≤ 20) (hd : ds.length ≤ 20) :
  Calls Tryz.prog 139 #[.agg #[.slice G gn gc, .int .i64 term, .int .i64 lead, .bool both, .slice V vn vc, .slice D ds.length dc], .agg #[.bool n.up, .int .i64 n.term, .bool n.leads, .bool n.alone, .slice A n.ops.length c], .int .i64 many] w (DoneP w G V gn gc vn vc term lead both D dc ds) := by
 have HC := Lib.hid hC
 clear hC
 by_cases c1 : (ds.length : Int) < many
 ·by_cases c2 : many ≤ n.ops.length
  ·obtain ⟨k, rfl⟩ : ∃ k : Nat, many = (k : Int) := ⟨many.toNat, by omega⟩
   have hk : k ≤ n.ops.length := by omega
   have hkc : k ≤ c := by omega
   have hkc2 : (k : Int) ≤ (c : Int) := by omega
   obtain ⟨tk, htk⟩ : ∃ t, n.ops.take k = t := ⟨_, rfl⟩
   have hlk : tk.length = k := by rw [← htk, List.length_take, Nat.min_eq_left hk]
   have HTK := Lib.hid htk
   have HLK := Lib.hid hlk
   clear htk hlk
   go_enter Tryz.func139, Tryz.ntmps139
   go_wp2_with (
    at_builtin
    have hB : Blk (((w.alloc (.cells #[.slice G gn gc, .int .i64 term, .int .i64 lead, .bool both, .slice V vn vc, .slice D ds.length dc] 62)).alloc (.cells (nC n A c) 25)).alloc (.cells zW 62)) w.heap.size #[.slice G gn gc, .int .i64 term, .int .i64 lead, .bool both, .slice V vn vc, .slice D ds.length dc] 62 := ((Blk.new _ _ _).alloc _).alloc _
    have hR : Blk (((w.alloc (.cells #[.slice G gn gc, .int .i64 term, .int .i64 lead, .bool both, .slice V vn vc, .slice D ds.length dc] 62)).alloc (.cells (nC n A c) 25)).alloc (.cells zW 62)) (w.heap.size + 1 + 1) zW 62 := by have := Blk.new ((w.alloc (.cells #[.slice G gn gc, .int .i64 term, .int .i64 lead, .bool both, .slice V vn vc, .slice D ds.length dc] 62)).alloc (.cells (nC n A c) 25)) zW 62; simpa using this
    have hW : Bel w (((w.alloc (.cells #[.slice G gn gc, .int .i64 term, .int .i64 lead, .bool both, .slice V vn vc, .slice D ds.length dc] 62)).alloc (.cells (nC n A c) 25)).alloc (.cells zW 62)) := bel_alloc (bel_alloc (bel_alloc (Below.refl _ _) _) _) _
    have hz : w.heap.size + 1 + 1 + 1 = ((((w.alloc (.cells #[.slice G gn gc, .int .i64 term, .int .i64 lead, .bool both, .slice V vn vc, .slice D ds.length dc] 62)).alloc (.cells (nC n A c) 25)).alloc (.cells zW 62))).heap.size := by simp
    generalize (((w.alloc (.cells #[.slice G gn gc, .int .i64 term, .int .i64 lead, .bool both, .slice V vn vc, .slice D ds.length dc] 62)).alloc (.cells (nC n A c) 25)).alloc (.cells zW 62)) = W0 at hB hR hW hz ⊢
    rw [hz]
    have htk2 : kOp.C W0 A k tk := by rw [← HTK.out]; exact C_take (kOp_keep HC.out hW) k hk
    refine Kd.R_append_rows kOp (w0 := W0) W0.heap.size rfl (.tmp 19) (.tmp 23) 23 27 (.agg #[.int .i64 0, .string ⟨#[]⟩, .string ⟨#[]⟩, .int .i64 0, .string ⟨#[]⟩]) 64 rfl Tryz.underlying23 info_opR rfl (by decide) (by decide) _ [] tk _ _ _ (fun _ => True) (fun _ => False) rfl rfl (R_emptyO W0 W0.heap.size (Nat.le_refl _)) (Kd.C_alloc htk2 _) (fun x cs h => by obtain rfl := kOp_open h; exact kOp_mkM _ _ _ x) (fun _ h => h.elim) (fun _ _ => trivial) ?a2 ?a3 ?a4 ?_
    case a2 => exact bel_alloc (Below.refl _ _) _
    case a3 => simp
    case a4 => have := HLK.out; simp; omega
    intro v w1 hoR hb1 hg hat
    have ho : OwnO w1 W0.heap.size v tk := ownO_of_R hoR
    obtain ⟨E, f, rfl, -, -⟩ := ho.reads
    have HB := Lib.hid (hB.bel hb1)
    have HR := Lib.hid (hR.bel hb1)
    have HW := Lib.hid (hW.tr hb1)
    have HO := Lib.hid (show OwnO w1 w.heap.size (.slice E tk.length f) tk from own_lower ho hW.size)
    clear hB hR hW hz htk2 hoR hb1 hg hat ho
    have b0 := blkn HB.out 0 _ rfl
    have b1 := blkn HB.out 1 _ rfl
    have b2 := blkn HB.out 2 _ rfl
    have b3 := blkn HB.out 3 _ rfl
    have b4 := blkn HB.out 4 _ rfl
    have b5 := blkn HB.out 5 _ rfl
    have bf5 := HB.out.free 5
    have by_ := HB.out.lt
    obtain ⟨r0, r1, r2, r3, r4, r5, rf0, rf1, rf2, rf3, rf4, rf5, -⟩ := k6f HR.out
    have ry := HR.out.lt)
   clear b0 b1 b2 b3 b4 b5 bf5 by_ r0 rf0 r1 rf1 r2 rf2 r3 rf3 r4 rf4 r5 rf5 ry
   have hB2 := HB.out.set 5 (.slice E tk.length f) (cs' := #[.slice G gn gc, .int .i64 term, .int .i64 lead, .bool both, .slice V vn vc, .slice E tk.length f]) rfl
   have hR2 := HR.out.apart (show ¬ w.heap.size = w.heap.size + 1 + 1 by omega) 5 (.slice E tk.length f)
   have hO2 := (HO.out.far HB.out (by decide) 5 (.slice E tk.length f)).sets hR2 (by decide) [.slice G gn gc, .int .i64 term, .int .i64 lead, .bool both, .slice V vn vc, .slice E tk.length f]
   have hW2 := bel_sets (show w.heap.size ≤ w.heap.size + 1 + 1 by omega) [.slice G gn gc, .int .i64 term, .int .i64 lead, .bool both, .slice V vn vc, .slice E tk.length f] 0 (bel_set HW.out (Nat.le_refl _) 5 (.slice E tk.length f))
   have hR3 := hR2.sets [.slice G gn gc, .int .i64 term, .int .i64 lead, .bool both, .slice V vn vc, .slice E tk.length f] rfl
   refine bodyPost_ret (results_cell_row rfl _ _ (w.heap.size + 1 + 1) 62 #[.slice G gn gc, .int .i64 term, .int .i64 lead, .bool both, .slice V vn vc, .slice E tk.length f] (0, 0) _ rfl hR3 Tryz.underlying62 rfl (by kernel_rfl)) rfl ?_
   exact ⟨E, f, tk, rfl, hW2, by have := HLK.out; omega, .inr hO2⟩
  ·go_enter Tryz.func139, Tryz.ntmps139
   go_wp2
   have hR : Blk (((w.alloc (.cells #[.slice G gn gc, .int .i64 term, .int .i64 lead, .bool both, .slice V vn vc, .slice D ds.length dc] 62)).alloc (.cells (nC n A c) 25)).alloc (.cells #[.slice G gn gc, .int .i64 term, .int .i64 lead, .bool both, .slice V vn vc, .slice D ds.length dc] 62)) (w.heap.size + 1 + 1) #[.slice G gn gc, .int .i64 term, .int .i64 lead, .bool both, .slice V vn vc, .slice D ds.length dc] 62 := by have := Blk.new ((w.alloc (.cells #[.slice G gn gc, .int .i64 term, .int .i64 lead, .bool both, .slice V vn vc, .slice D ds.length dc] 62)).alloc (.cells (nC n A c) 25)) #[.slice G gn gc, .int .i64 term, .int .i64 lead, .bool both, .slice V vn vc, .slice D ds.length dc] 62; simpa using this
   have hW : Bel w (((w.alloc (.cells #[.slice G gn gc, .int .i64 term, .int .i64 lead, .bool both, .slice V vn vc, .slice D ds.length dc] 62)).alloc (.cells (nC n A c) 25)).alloc (.cells #[.slice G gn gc, .int .i64 term, .int .i64 lead, .bool both, .slice V vn vc, .slice D ds.length dc] 62)) := bel_alloc (bel_alloc (bel_alloc (Below.refl _ _) _) _) _
   refine bodyPost_ret (results_cell_row rfl _ _ (w.heap.size + 1 + 1) 62 #[.slice G gn gc, .int .i64 term, .int .i64 lead, .bool both, .slice V vn vc, .slice D ds.length dc] (0, 0) _ rfl hR Tryz.underlying62 rfl (by kernel_rfl)) rfl ?_
   exact ⟨D, dc, ds, rfl, hW, hd, .inl ⟨rfl, rfl, rfl⟩⟩
 ·go_enter Tryz.func139, Tryz.ntmps139
  go_wp2
  have hR : Blk (((w.alloc (.cells #[.slice G gn gc, .int .i64 term, .int .i64 lead, .bool both, .slice V vn vc, .slice D ds.length dc] 62)).alloc (.cells (nC n A c) 25)).alloc (.cells #[.slice G gn gc, .int .i64 term, .int .i64 lead, .bool both, .slice V vn vc, .slice D ds.length dc] 62)) (w.heap.size + 1 + 1) #[.slice G gn gc, .int .i64 term, .int .i64 lead, .bool both, .slice V vn vc, .slice D ds.length dc] 62 := by have := Blk.new ((w.alloc (.cells #[.slice G gn gc, .int .i64 term, .int .i64 lead, .bool both, .slice V vn vc, .slice D ds.length dc] 62)).alloc (.cells (nC n A c) 25)) #[.slice G gn gc, .int .i64 term, .int .i64 lead, .bool both, .slice V vn vc, .slice D ds.length dc] 62; simpa using this
  have hW : Bel w (((w.alloc (.cells #[.slice G gn gc, .int .i64 term, .int .i64 lead, .bool both, .slice V vn vc, .slice D ds.length dc] 62)).alloc (.cells (nC n A c) 25)).alloc (.cells #[.slice G gn gc, .int .i64 term, .int .i64 lead, .bool both, .slice V vn vc, .slice D ds.length dc] 62)) := bel_alloc (bel_alloc (bel_alloc (Below.refl _ _) _) _) _
  refine bodyPost_ret (results_cell_row rfl _ _ (w.heap.size + 1 + 1) 62 #[.slice G gn gc, .int .i64 term, .int .i64 lead, .bool both, .slice V vn vc, .slice D ds.length dc] (0, 0) _ rfl hR Tryz.underlying62 rfl (by kernel_rfl)) rfl ?_
  exact ⟨D, dc, ds, rfl, hW, hd, .inl ⟨rfl, rfl, rfl⟩⟩
end
theorem info_msgR : (Tryz.prog.info? 29).map (fun i => (i.zero, i.size, i.bytes)) = some (some (.agg #[.int .i64 0, .int .i64 0, .int .i64 0, .int .i64 0, .int .i64 0, .string ⟨#[]⟩, .string ⟨#[]⟩, .int .i64 0, .string ⟨#[]⟩, .slice none 0 0]), 10, 120) := by kernel_rfl
theorem OwnM.reads {w : World} {base : Nat} {v : Value} {xs : List LV} (h : OwnM w base v xs) : ∃ A c, v = .slice A xs.length c := by
 rcases h.2 with ⟨e, h0⟩ | ⟨g, cap, cur, e, _⟩
 ·exact ⟨none, 0, by rw [e, h0]⟩
 ·exact ⟨_, _, e⟩
theorem run_append_ownM {w : World} {base : Nat} {v : Value} {xs : List LV} (h : OwnM w base v xs) (ty : TypeId) (x : LV) (a : Addr) (c : Nat) (hx : ∀ j u, (encM x)[j]? = some u → w.cell? (a.add j) = some u) (hl : xs.length ≤ 1048576) (hbase : base ≤ w.heap.size) :
  ∃ v' w', (Builtin.append_ #[60, 60] ty #[v, .slice (some a) 1 c]).run Tryz.prog w = .ok v' w' ∧ OwnM w' base v' (xs ++ [x]) ∧ w.grownBy w' v.ownBlock ∧ (v'.ownBlock = v.ownBlock ∨ ∃ b, v'.ownBlock = some b ∧ w.heap.size ≤ b) := by
 obtain ⟨i, hi, hzz⟩ := Option.map_eq_some_iff.1 info_msgR
 simp only [Prod.mk.injEq] at hzz
 obtain ⟨hz0, hz1, hz2⟩ := hzz
 have h1 : ∀ u ∈ encM x, u.oneCell' = true := by intro u hu; simp [encM] at hu; rcases hu with rfl | rfl | rfl | rfl | rfl | rfl | rfl | rfl | rfl | rfl <;> rfl
 obtain ⟨v1, w1, hr, h2, hg, _, hat⟩ := run_append_own_at (P := Tryz.prog) w base 60 ty 29 i _ 10 120 Tryz.underlying60 hi hz0 hz1 hz2 rfl (by decide) _ _ _ h a 1 c (encM x) rfl hx h1 (by simp only [maxLen]; omega) (by omega) hbase
 refine ⟨v1, w1, hr, ?_, hg, ?_⟩
 ·unfold OwnM
  rw [List.length_append, List.flatMap_append]
  simpa using h2
 ·rcases hat with hat | hat
  ·exact .inl hat
  ·exact .inr ⟨_, hat, Nat.le_refl _⟩
theorem own_append_m {ops rest : List Oper} {P : Array Oper} {o : Oper} {a : Act} {Q : Exit → Act → World → Prop} {W : World} {base : Nat} {v : Value} {xs : List LV} (hgd : o.guard = none) (s x : Operand)
  (ho : o.op = .call { callee := .builtin .append, args := #[s, x], argTypes := #[60, 60] }) (hs : a.eval s = v) (y : LV) (ad : Addr) (c : Nat) (hx : a.eval x = .slice (some ad) 1 c)
  (hc : ∀ j u, (encM y)[j]? = some u → W.cell? (ad.add j) = some u) (h : OwnM W base v xs) (hl : xs.length ≤ 1048576) (hbase : base ≤ W.heap.size)
  (K : ∀ v1 w1, OwnM w1 base v1 (xs ++ [y]) → W.grownBy w1 v.ownBlock → (v1.ownBlock = v.ownBlock ∨ ∃ b, v1.ownBlock = some b ∧ W.heap.size ≤ b) → wpList Tryz.prog P Q rest (a.put o.dst v1) w1) :
  wpList Tryz.prog P Q (o :: rest) a W := by
 obtain ⟨v1, w1, hr1, h1, hg, hat⟩ := run_append_ownM h o.type y ad c hc hl hbase
 refine wpList_plain hgd fun K' hK => ?_
 unfold Oper.wp execOp
 simp only [ho, resolve, invoke, builtin, Sem.run_bind, Sem.run_pure, Result.andThen_ok, List.map_toArray, List.map_cons, List.map_nil, hs, hx, hr1]
 exact hK _ _ (K v1 w1 h1 hg hat)
theorem blk_m10 {w : World} {b : Nat} {x : LV} (hB : Blk w b #[.int .i64 x.m.kind, .int .i64 x.m.whom, .int .i64 x.m.term, .int .i64 x.m.n, .int .i64 x.m.op.kind, .string x.m.op.name, .string x.m.op.dest, .int .i64 x.m.op.n, .string x.m.op.text, .slice x.A x.m.ops.length x.c] 29) : ∀ j u, (encM x)[j]? = some u → w.cell? ((⟨b, 0, none⟩ : Addr).add j) = some u := by
 intro j u hj
 rw [Addr.add_lit, Nat.zero_add, hB.cell]
 simpa [encM] using hj
theorem own_neM {w : World} {base : Nat} {v : Value} {xs : List LV} (h : OwnM w base v xs) {b : Nat} {cs : Array Value} {t : TypeId} (hB : Blk w b cs t) (ht : 29 ≠ t) : some b ≠ v.ownBlock := fun e => by
 rcases h.2 with ⟨e0, _⟩ | ⟨g, cap, cur, e0, _, hg, _⟩
 ·rw [e0] at e; cases e
 ·rw [e0] at e
  obtain rfl : b = g := by injection e
  have h2 := hB.symm.trans hg
  injection h2 with h2
  injection h2 with h2 h3 h4
  exact ht h3.symm
theorem own_setM1 {W : World} {base b : Nat} {v : Value} {xs : List LV} {cs : Array Value} {t : TypeId} (h : OwnM W base v xs) (hB : Blk W b cs t) (ht : 29 ≠ t) (i : Nat) (u : Value) : OwnM (W.setCell ⟨b, i, none⟩ u) base v xs := by
 have hg : W.grownBy (W.setCell ⟨b, i, none⟩ u) (some b) := ⟨rfl, rfl, rfl, by simp, fun k hk hne => by
  have : b ≠ k := fun e => hne (by rw [e])
  simp [World.setCell, Array.getElem?_modify, this]⟩
 exact h.kept hg (.inr fun e => own_neM h hB ht e.symm)
theorem own_setMN {base b : Nat} {v : Value} {xs : List LV} (hne : v.ownBlock = none ∨ v.ownBlock ≠ some b) (vs : List Value) : ∀ {W : World} (j : Nat), OwnM W base v xs → OwnM (wsets W b j vs) base v xs := by
 induction vs with
 | nil => intro W j h; exact h
 | cons u vs ih =>
  intro W j h
  have hg : W.grownBy (W.setCell ⟨b, j, none⟩ u) (some b) := ⟨rfl, rfl, rfl, by simp, fun k hk hne => by
   have : b ≠ k := fun e => hne (by rw [e])
   simp [World.setCell, Array.getElem?_modify, this]⟩
  exact ih _ (h.kept hg hne)
theorem own_setM {W : World} {base b : Nat} {v : Value} {xs : List LV} {cs : Array Value} {t : TypeId} (h : OwnM W base v xs) (hB : Blk W b cs t) (ht : 29 ≠ t) (vs : List Value) : OwnM (wsets W b 0 vs) base v xs := own_setMN (.inr fun e => own_neM h hB ht e.symm) vs 0 h
def SendP (base : Nat) (w : World) (G D : Option Addr) (gn gc dn dc : Nat) (term lead : Int) (both : Bool) (xs : List LV) (x : LV) (v0 : Value) (e : Ending) (w' : World) : Prop :=
 ∃ (E : Option Addr) (f : Nat) (ys : List LV), e = .returned (.agg #[.slice G gn gc, .int .i64 term, .int .i64 lead, .bool both, .slice E ys.length f, .slice D dn dc]) ∧ (ys = xs ∨ (ys = xs ++ [x] ∧ xs.length < 12)) ∧ OwnM w' base (.slice E ys.length f) ys ∧ w.grownBy w' v0.ownBlock
section
variable {w : World} {G V D : Option Addr} {base gn gc vc dn dc : Nat} {term lead : Int} {both : Bool} {xs : List LV} {x : LV}
theorem l22Send_c (h : OwnM w base (.slice V xs.length vc) xs) (hbase : base ≤ w.heap.size) (hl : xs.length ≤ 12) :
  Calls Tryz.prog 125 #[.agg #[.slice G gn gc, .int .i64 term, .int .i64 lead, .bool both, .slice V xs.length vc, .slice D dn dc], .agg #[.int .i64 x.m.kind, .int .i64 x.m.whom, .int .i64 x.m.term, .int .i64 x.m.n, .int .i64 x.m.op.kind, .string x.m.op.name, .string x.m.op.dest, .int .i64 x.m.op.n, .string x.m.op.text, .slice x.A x.m.ops.length x.c]] w (SendP base w G D gn gc dn dc term lead both xs x (.slice V xs.length vc)) := by
 have HV := Lib.hid h
 have HBS := Lib.hid hbase
 clear h hbase
 by_cases c1 : xs.length < 12
 ·go_enter Tryz.func125, Tryz.ntmps125
  go_wp2_with (
   at_builtin
   have hB : Blk (((w.alloc (.cells #[.slice G gn gc, .int .i64 term, .int .i64 lead, .bool both, .slice V xs.length vc, .slice D dn dc] 62)).alloc (.cells #[.int .i64 x.m.kind, .int .i64 x.m.whom, .int .i64 x.m.term, .int .i64 x.m.n, .int .i64 x.m.op.kind, .string x.m.op.name, .string x.m.op.dest, .int .i64 x.m.op.n, .string x.m.op.text, .slice x.A x.m.ops.length x.c] 29)).alloc (.cells zW 62)) w.heap.size #[.slice G gn gc, .int .i64 term, .int .i64 lead, .bool both, .slice V xs.length vc, .slice D dn dc] 62 := ((Blk.new _ _ _).alloc _).alloc _
   have hR : Blk (((w.alloc (.cells #[.slice G gn gc, .int .i64 term, .int .i64 lead, .bool both, .slice V xs.length vc, .slice D dn dc] 62)).alloc (.cells #[.int .i64 x.m.kind, .int .i64 x.m.whom, .int .i64 x.m.term, .int .i64 x.m.n, .int .i64 x.m.op.kind, .string x.m.op.name, .string x.m.op.dest, .int .i64 x.m.op.n, .string x.m.op.text, .slice x.A x.m.ops.length x.c] 29)).alloc (.cells zW 62)) (w.heap.size + 1 + 1) zW 62 := by have := Blk.new ((w.alloc (.cells #[.slice G gn gc, .int .i64 term, .int .i64 lead, .bool both, .slice V xs.length vc, .slice D dn dc] 62)).alloc (.cells #[.int .i64 x.m.kind, .int .i64 x.m.whom, .int .i64 x.m.term, .int .i64 x.m.n, .int .i64 x.m.op.kind, .string x.m.op.name, .string x.m.op.dest, .int .i64 x.m.op.n, .string x.m.op.text, .slice x.A x.m.ops.length x.c] 29)) zW 62; simpa using this
   have hW : Bel w (((w.alloc (.cells #[.slice G gn gc, .int .i64 term, .int .i64 lead, .bool both, .slice V xs.length vc, .slice D dn dc] 62)).alloc (.cells #[.int .i64 x.m.kind, .int .i64 x.m.whom, .int .i64 x.m.term, .int .i64 x.m.n, .int .i64 x.m.op.kind, .string x.m.op.name, .string x.m.op.dest, .int .i64 x.m.op.n, .string x.m.op.text, .slice x.A x.m.ops.length x.c] 29)).alloc (.cells zW 62)) := bel_alloc (bel_alloc (bel_alloc (Below.refl _ _) _) _) _
   have hz : w.heap.size + 1 + 1 + 1 = ((((w.alloc (.cells #[.slice G gn gc, .int .i64 term, .int .i64 lead, .bool both, .slice V xs.length vc, .slice D dn dc] 62)).alloc (.cells #[.int .i64 x.m.kind, .int .i64 x.m.whom, .int .i64 x.m.term, .int .i64 x.m.n, .int .i64 x.m.op.kind, .string x.m.op.name, .string x.m.op.dest, .int .i64 x.m.op.n, .string x.m.op.text, .slice x.A x.m.ops.length x.c] 29)).alloc (.cells zW 62))).heap.size := by simp
   generalize (((w.alloc (.cells #[.slice G gn gc, .int .i64 term, .int .i64 lead, .bool both, .slice V xs.length vc, .slice D dn dc] 62)).alloc (.cells #[.int .i64 x.m.kind, .int .i64 x.m.whom, .int .i64 x.m.term, .int .i64 x.m.n, .int .i64 x.m.op.kind, .string x.m.op.name, .string x.m.op.dest, .int .i64 x.m.op.n, .string x.m.op.text, .slice x.A x.m.ops.length x.c] 29)).alloc (.cells zW 62)) = W0 at hB hR hW hz ⊢
   rw [hz]
   have ha : Bel W0 (W0.alloc (.cells #[.int .i64 x.m.kind, .int .i64 x.m.whom, .int .i64 x.m.term, .int .i64 x.m.n, .int .i64 x.m.op.kind, .string x.m.op.name, .string x.m.op.dest, .int .i64 x.m.op.n, .string x.m.op.text, .slice x.A x.m.ops.length x.c] 29)) := bel_alloc (Below.refl _ _) _
   have hv0 := (HV.out.bel hW).bel ha
   refine own_append_m (ops := []) rfl (.tmp 10) (.tmp 12) rfl rfl x ⟨W0.heap.size, 0, none⟩ 1 rfl (blk_m10 (show Blk (W0.alloc (.cells #[.int .i64 x.m.kind, .int .i64 x.m.whom, .int .i64 x.m.term, .int .i64 x.m.n, .int .i64 x.m.op.kind, .string x.m.op.name, .string x.m.op.dest, .int .i64 x.m.op.n, .string x.m.op.text, .slice x.A x.m.ops.length x.c] 29)) W0.heap.size #[.int .i64 x.m.kind, .int .i64 x.m.whom, .int .i64 x.m.term, .int .i64 x.m.n, .int .i64 x.m.op.kind, .string x.m.op.name, .string x.m.op.dest, .int .i64 x.m.op.n, .string x.m.op.text, .slice x.A x.m.ops.length x.c] 29 from Blk.new _ _ _)) hv0 (by omega) (Nat.le_trans HBS.out (hW.tr ha).size) ?_
   intro v1 w1 hv1 hg hat
   obtain ⟨ys, hys⟩ : ∃ y, xs ++ [x] = y := ⟨_, rfl⟩
   rw [hys] at hv1
   obtain ⟨E, f, rfl⟩ := hv1.reads
   have hb8 := hB.bel ha
   have hr8 := hR.bel ha
   have HB := Lib.hid (hb8.grown hg (own_neM hv0 hb8 (by decide)))
   have HR := Lib.hid (hr8.grown hg (own_neM hv0 hr8 (by decide)))
   have HG := Lib.hid (grown_tr (grown_of_bel (hW.tr ha) (Value.slice V xs.length vc).ownBlock) hg)
   have HO := Lib.hid hv1
   have HYS := Lib.hid hys
   clear hB hR hW hz ha hv0 hg hat hv1 hb8 hr8 hys
   have b0 := blkn HB.out 0 _ rfl
   have b1 := blkn HB.out 1 _ rfl
   have b2 := blkn HB.out 2 _ rfl
   have b3 := blkn HB.out 3 _ rfl
   have b4 := blkn HB.out 4 _ rfl
   have b5 := blkn HB.out 5 _ rfl
   have bf4 := HB.out.free 4
   have by_ := HB.out.lt
   obtain ⟨r0, r1, r2, r3, r4, r5, rf0, rf1, rf2, rf3, rf4, rf5, -⟩ := k6f HR.out
   have ry := HR.out.lt)
  clear b0 b1 b2 b3 b4 b5 bf4 by_ r0 rf0 r1 rf1 r2 rf2 r3 rf3 r4 rf4 r5 rf5 ry
  have hB2 := HB.out.set 4 (.slice E ys.length f) (cs' := #[.slice G gn gc, .int .i64 term, .int .i64 lead, .bool both, .slice E ys.length f, .slice D dn dc]) rfl
  have hR2 := HR.out.apart (show ¬ w.heap.size = w.heap.size + 1 + 1 by omega) 4 (.slice E ys.length f)
  have hO2 := own_setM (own_setM1 HO.out HB.out (by decide) 4 (.slice E ys.length f)) hR2 (by decide) [.slice G gn gc, .int .i64 term, .int .i64 lead, .bool both, .slice E ys.length f, .slice D dn dc]
  have hG2 := grown_sets (show w.heap.size ≤ w.heap.size + 1 + 1 by omega) [.slice G gn gc, .int .i64 term, .int .i64 lead, .bool both, .slice E ys.length f, .slice D dn dc] 0 (grown_new HG.out (Nat.le_refl _) 4 (.slice E ys.length f))
  have hR3 := hR2.sets [.slice G gn gc, .int .i64 term, .int .i64 lead, .bool both, .slice E ys.length f, .slice D dn dc] rfl
  refine bodyPost_ret (results_cell_row rfl _ _ (w.heap.size + 1 + 1) 62 #[.slice G gn gc, .int .i64 term, .int .i64 lead, .bool both, .slice E ys.length f, .slice D dn dc] (0, 0) _ rfl hR3 Tryz.underlying62 rfl (by kernel_rfl)) rfl ?_
  exact ⟨E, f, ys, rfl, .inr ⟨HYS.out.symm, c1⟩, hO2, hG2⟩
 ·go_enter Tryz.func125, Tryz.ntmps125
  go_wp2
  have hR : Blk (((w.alloc (.cells #[.slice G gn gc, .int .i64 term, .int .i64 lead, .bool both, .slice V xs.length vc, .slice D dn dc] 62)).alloc (.cells #[.int .i64 x.m.kind, .int .i64 x.m.whom, .int .i64 x.m.term, .int .i64 x.m.n, .int .i64 x.m.op.kind, .string x.m.op.name, .string x.m.op.dest, .int .i64 x.m.op.n, .string x.m.op.text, .slice x.A x.m.ops.length x.c] 29)).alloc (.cells #[.slice G gn gc, .int .i64 term, .int .i64 lead, .bool both, .slice V xs.length vc, .slice D dn dc] 62)) (w.heap.size + 1 + 1) #[.slice G gn gc, .int .i64 term, .int .i64 lead, .bool both, .slice V xs.length vc, .slice D dn dc] 62 := by have := Blk.new ((w.alloc (.cells #[.slice G gn gc, .int .i64 term, .int .i64 lead, .bool both, .slice V xs.length vc, .slice D dn dc] 62)).alloc (.cells #[.int .i64 x.m.kind, .int .i64 x.m.whom, .int .i64 x.m.term, .int .i64 x.m.n, .int .i64 x.m.op.kind, .string x.m.op.name, .string x.m.op.dest, .int .i64 x.m.op.n, .string x.m.op.text, .slice x.A x.m.ops.length x.c] 29)) #[.slice G gn gc, .int .i64 term, .int .i64 lead, .bool both, .slice V xs.length vc, .slice D dn dc] 62; simpa using this
  have hW : Bel w (((w.alloc (.cells #[.slice G gn gc, .int .i64 term, .int .i64 lead, .bool both, .slice V xs.length vc, .slice D dn dc] 62)).alloc (.cells #[.int .i64 x.m.kind, .int .i64 x.m.whom, .int .i64 x.m.term, .int .i64 x.m.n, .int .i64 x.m.op.kind, .string x.m.op.name, .string x.m.op.dest, .int .i64 x.m.op.n, .string x.m.op.text, .slice x.A x.m.ops.length x.c] 29)).alloc (.cells #[.slice G gn gc, .int .i64 term, .int .i64 lead, .bool both, .slice V xs.length vc, .slice D dn dc] 62)) := bel_alloc (bel_alloc (bel_alloc (Below.refl _ _) _) _) _
  refine bodyPost_ret (results_cell_row rfl _ _ (w.heap.size + 1 + 1) 62 #[.slice G gn gc, .int .i64 term, .int .i64 lead, .bool both, .slice V xs.length vc, .slice D dn dc] (0, 0) _ rfl hR Tryz.underlying62 rfl (by kernel_rfl)) rfl ?_
  exact ⟨_, _, xs, rfl, .inl rfl, HV.out.bel hW, grown_of_bel hW _⟩
end
end Go.Proofs.YtljfoglilggkjaaGreat

/- Contracts of the program's and the reference's functions, and the plain laws behind them: part 12 of 13. -/
import Derived.Test.YtljfoglilggkjaaGreatM1
import Derived.Test.YtljfoglilggkjaaGreatM2
import Derived.Test.YtljfoglilggkjaaGreatM3
import Derived.Test.YtljfoglilggkjaaGreatM4
import Derived.Test.YtljfoglilggkjaaGreatM5
import Derived.Test.YtljfoglilggkjaaGreatM6
import Derived.Test.YtljfoglilggkjaaGreatM7
import Derived.Test.YtljfoglilggkjaaGreatM8
import Derived.Test.YtljfoglilggkjaaGreatM9
import Derived.Test.YtljfoglilggkjaaGreatM10
import Derived.Test.YtljfoglilggkjaaGreatM11
set_option linter.unusedVariables false
set_option linter.unusedSimpArgs false
set_option maxHeartbeats 64000000
set_option maxRecDepth 10000
namespace Go.Proofs.YtljfoglilggkjaaGreat
open Go.RowKit Go.Proofs.YtljfoglilggkjaaGreatW.PrintWords Go.Proofs.YtljfoglilggkjaaGreatW.PrintLast
structure Turn (base : Nat) (w w' : World) : Prop where
  os : w'.os = w.os
  tape : w'.tape = w.tape
  output : w'.output = w.output
  size : w.heap.size ≤ w'.heap.size
  below : ∀ k, k < w.heap.size → k < base → w'.heap[k]? = w.heap[k]?
  other : ∀ k cs t, Blk w k cs t → t ≠ 25 → t ≠ 27 → t ≠ 29 → Blk w' k cs t
theorem Turn.of_bel {base : Nat} {w w' : World} (h : Bel w w') : Turn base w w' := ⟨h.os, h.tape, h.output, h.size, fun k hk _ => h.block k hk, fun k cs t hB _ _ _ => hB.bel h⟩
theorem Turn.refl (base : Nat) (w : World) : Turn base w w := Turn.of_bel (Below.refl _ _)
theorem Turn.tr {base : Nat} {a b c : World} (h1 : Turn base a b) (h2 : Turn base b c) : Turn base a c :=
 ⟨h2.os.trans h1.os, h2.tape.trans h1.tape, h2.output.trans h1.output, Nat.le_trans h1.size h2.size, fun k hk hb => (h2.below k (Nat.lt_of_lt_of_le hk h1.size) hb).trans (h1.below k hk hb), fun k cs t hB n1 n2 n3 => h2.other k cs t (h1.other k cs t hB n1 n2 n3) n1 n2 n3⟩
theorem blk_one {w : World} {k : Nat} {cs cs' : Array Value} {t t' : TypeId} (h : Blk w k cs t) (h' : Blk w k cs' t') : t = t' := by
 have h2 := h.symm.trans h'
 injection h2 with h2
 injection h2 with h2 h3 h4
theorem Turn.grown {base : Nat} {w w' : World} {r : Option Nat} (hg : w.grownBy w' r) (hr : ∀ k, r = some k → base ≤ k ∧ ∃ cs t, Blk w k cs t ∧ (t = 25 ∨ t = 27 ∨ t = 29)) : Turn base w w' :=
 ⟨hg.os, hg.tape, hg.output, hg.size, fun k hk hb => hg.block k hk (fun e => by have := (hr k e.symm).1; omega), fun k cs t hB n1 n2 n3 => hB.grown hg (fun e => by
  obtain ⟨_, cs', t', h, ht⟩ := hr k e.symm
  obtain rfl := blk_one hB h
  rcases ht with ht | ht | ht
  ·exact n1 ht
  ·exact n2 ht
  ·exact n3 ht)⟩
theorem grown_wsets (b : Nat) (vs : List Value) : ∀ (W : World) (j : Nat), W.grownBy (wsets W b j vs) (some b) := by
 induction vs with
 | nil => intro W j; exact grown_refl _ _
 | cons v vs ih => intro W j; exact grown_tr (grown_setCell W b j v) (ih _ _)
theorem Turn.new {base : Nat} {w W : World} (h : Turn base w W) {b : Nat} (hb : w.heap.size ≤ b) (vs : List Value) (j : Nat) : Turn base w (wsets W b j vs) := by
 have hg := grown_wsets b vs W j
 refine ⟨hg.os.trans h.os, hg.tape.trans h.tape, hg.output.trans h.output, Nat.le_trans h.size hg.size, fun k hk hk2 => (hg.block k (Nat.lt_of_lt_of_le hk h.size) (fun e => ?_)).trans (h.below k hk hk2), fun k cs t hB n1 n2 n3 => (h.other k cs t hB n1 n2 n3).grown hg (fun e => ?_)⟩
 ·injection e with e; omega
 ·injection e with e; have := hB.lt; omega
theorem OwnM.block {w : World} {base : Nat} {v : Value} {xs : List LV} (h : OwnM w base v xs) : ∀ k, v.ownBlock = some k → base ≤ k ∧ k < w.heap.size ∧ ∃ cs, Blk w k cs 29 := by
 intro k hk
 rcases h.2 with ⟨e0, _⟩ | ⟨g, cap, cur, e0, hb, hg, _⟩
 ·rw [e0] at hk; cases hk
 ·rw [e0] at hk; cases hk
  exact ⟨hb, (Array.getElem?_eq_some_iff.1 hg).1, cur, hg⟩
theorem own_keepM {w w' : World} {b1 b2 : Nat} {vn v : Value} {xs : List LV} {os : List Op} (hM : OwnM w b1 vn xs) (hT : OwnT w b2 v os) (hg : w.grownBy w' vn.ownBlock) : OwnT w' b2 v os :=
 hT.kept hg (fun k hk e => by
  obtain ⟨_, _, cs, hc⟩ := hT.base k hk
  exact own_neM hM (show Blk w k cs 27 from hc) (by decide) e.symm)
theorem own_keepT {w w' : World} {b1 b2 : Nat} {vn v : Value} {xs : List LV} {os : List Op} (hM : OwnM w b1 vn xs) (hT : OwnT w b2 v os) (hg : w.grownBy w' v.ownBlock) : OwnM w' b1 vn xs :=
 hM.kept hg (by
  cases hv : vn.ownBlock with
  | none => exact .inl rfl
  | some k =>
   refine .inr fun e => ?_
   obtain ⟨_, _, cs, hc⟩ := hT.base k e.symm
   exact own_neM hM (show Blk w k cs 27 from hc) (by decide) hv.symm)
structure WO (w : World) (base : Nat) (a b : NVl) (vn : Value) (xs : List LV) (vd : Value) (ds : List Op) : Prop where
  oa : NOk w base a
  ob : NOk w base b
  ab : Apt a.sl b.sl
  nets : OwnM w base vn xs
  letter : ∀ x ∈ xs, LOk w base x
  la : ∀ x ∈ xs, Apt a.sl x.sl
  lb : ∀ x ∈ xs, Apt b.sl x.sl
  done : OwnT w base vd ds
  da : Apt a.sl vd
  db : Apt b.sl vd
  many : xs.length ≤ 12
  dlen : ds.length ≤ 20
  ld : ∀ x ∈ xs, Apt vd x.sl
section
variable {w w' : World} {base : Nat} {a b a' : NVl} {vn vn' vd vd' : Value} {xs ys : List LV} {x : LV} {ds ds' : List Op} {r : Option Nat}
theorem WO.swap (h : WO w base a b vn xs vd ds) : WO w base b a vn xs vd ds := ⟨h.ob, h.oa, h.ab.symm, h.nets, h.letter, h.lb, h.la, h.done, h.db, h.da, h.many, h.dlen, h.ld⟩
theorem WO.bel (h : WO w base a b vn xs vd ds) (hb : Bel w w') : WO w' base a b vn xs vd ds :=
 ⟨h.oa.bel hb, h.ob.bel hb, h.ab, h.nets.bel hb, fun x hx => (h.letter x hx).bel hb, h.la, h.lb, h.done.bel hb, h.da, h.db, h.many, h.dlen, h.ld⟩
theorem WO.kept (h : WO w base a b vn xs vd ds) (hg : w.grownBy w' r) (hr : ∀ k, r = some k → ∃ cs t, Blk w k cs t ∧ 27 ≠ t ∧ 29 ≠ t) : WO w' base a b vn xs vd ds := by
 have key : ∀ {v : Value} {os : List Op} {b0 : Nat}, OwnT w b0 v os → ∀ k, v.ownBlock = some k → r ≠ some k := fun hT k hk e => by
  obtain ⟨cs, t, hB, h1, _⟩ := hr k e
  exact blk_otherT hT hB h1 hk.symm
 refine ⟨h.oa.kept hg (key h.oa.own), h.ob.kept hg (key h.ob.own), h.ab, h.nets.kept hg ?_, fun x hx => (h.letter x hx).kept hg (key (h.letter x hx).own), h.la, h.lb, h.done.kept hg (key h.done), h.da, h.db, h.many, h.dlen, h.ld⟩
 cases hv : vn.ownBlock with
 | none => exact .inl rfl
 | some k =>
  refine .inr fun e => ?_
  obtain ⟨cs, t, hB, _, h2⟩ := hr k e.symm
  exact own_neM h.nets hB h2 hv.symm
theorem WO.sets (h : WO w base a b vn xs vd ds) {k : Nat} {cs : Array Value} {t : TypeId} (hB : Blk w k cs t) (h1 : 27 ≠ t) (h2 : 29 ≠ t) (vs : List Value) (j : Nat) : WO (wsets w k j vs) base a b vn xs vd ds :=
 h.kept (grown_wsets k vs w j) (fun k' e => ⟨cs, t, by cases e; exact hB, h1, h2⟩)
theorem WO.growA (h : WO w base a b vn xs vd ds) (hg : w.grownBy w' a.sl.ownBlock) (ha : NOk w' base a') (hat : ∀ k, a'.sl.ownBlock = some k → a.sl.ownBlock = some k ∨ w.heap.size ≤ k) : WO w' base a' b vn xs vd ds := by
 have key : ∀ {v : Value} {os : List Op} {b0 : Nat}, OwnT w b0 v os → Apt a.sl v → Apt a'.sl v := fun hT hA k hk hv => by
  rcases hat k hk with e | e
  ·exact hA k e hv
  ·have := (hT.base k hv).2.1
   omega
 exact ⟨ha, h.ob.kept hg (fun k hk e => h.ab k e hk), key h.ob.own h.ab, own_keepT h.nets h.oa.own hg, fun x hx => (h.letter x hx).kept hg (fun k hk e => h.la x hx k e hk), fun x hx => key (h.letter x hx).own (h.la x hx), h.lb, h.done.kept hg (fun k hk e => h.da k e hk), key h.done h.da, h.db, h.many, h.dlen, h.ld⟩
theorem WO.flagA (h : WO w base a b vn xs vd ds) (e1 : a'.sl = a.sl) (e2 : a'.n.ops = a.n.ops) : WO w base a' b vn xs vd ds :=
 ⟨⟨by rw [e1, e2]; exact h.oa.own, by rw [e2]; exact h.oa.ops, by rw [e2]; exact h.oa.run, by rw [e2]; exact h.oa.len⟩, h.ob, by rw [e1]; exact h.ab, h.nets, h.letter, by rw [e1]; exact h.la, h.lb, h.done, by rw [e1]; exact h.da, h.db, h.many, h.dlen, h.ld⟩
theorem WO.doneN (h : WO w base a b vn xs vd ds) (hb : Bel w w') (ho : OwnT w' w.heap.size vd' ds') (hbase : base ≤ w.heap.size) (hl : ds'.length ≤ 20) : WO w' base a b vn xs vd' ds' := by
 have h2 := h.bel hb
 exact ⟨h2.oa, h2.ob, h2.ab, h2.nets, h2.letter, h2.la, h2.lb, ho.lower hbase, fun k hk e => by have := (ho.base k e).1; have := (h.oa.own.base k hk).2.1; omega, fun k hk e => by have := (ho.base k e).1; have := (h.ob.own.base k hk).2.1; omega, h2.many, hl, fun x hx k hk e => by have := (ho.base k hk).1; have := ((h.letter x hx).own.base k e).2.1; omega⟩
theorem WO.send (h : WO w base a b vn xs vd ds) (hx : LOk w base x) (hxa : Apt a.sl x.sl) (hxb : Apt b.sl x.sl) (hxd : Apt vd x.sl) (hy : ys = xs ∨ (ys = xs ++ [x] ∧ xs.length < 12)) (ho : OwnM w' base vn' ys) (hg : w.grownBy w' vn.ownBlock) : WO w' base a b vn' ys vd ds := by
 have kL : ∀ {y : LV}, LOk w base y → LOk w' base y := fun hy => ⟨own_keepM h.nets hy.own hg, hy.ops, hy.op, hy.run, hy.whom, hy.n, hy.len⟩
 have kN : ∀ {y : NVl}, NOk w base y → NOk w' base y := fun hy => ⟨own_keepM h.nets hy.own hg, hy.ops, hy.run, hy.len⟩
 rcases hy with rfl | ⟨rfl, hl⟩
 ·exact ⟨kN h.oa, kN h.ob, h.ab, ho, fun y hy => kL (h.letter y hy), h.la, h.lb, own_keepM h.nets h.done hg, h.da, h.db, h.many, h.dlen, h.ld⟩
 ·have m1 : ∀ {P : LV → Prop}, (∀ y ∈ xs, P y) → P x → ∀ y ∈ xs ++ [x], P y := fun h1 h2 y hy => by
   rcases List.mem_append.1 hy with hy | hy
   ·exact h1 y hy
   ·obtain rfl := List.mem_singleton.1 hy
    exact h2
  exact ⟨kN h.oa, kN h.ob, h.ab, ho, m1 (fun y hy => kL (h.letter y hy)) (kL hx), m1 h.la hxa, m1 h.lb hxb, own_keepM h.nets h.done hg, h.da, h.db, by simp; omega, h.dlen, m1 h.ld hxd⟩
theorem WO.netsN (h : WO w base a b vn xs vd ds) (hb : Bel w w') (ho : OwnM w' base vn' ys) (hy : ∀ y ∈ ys, y ∈ xs) (hl : ys.length ≤ 12) : WO w' base a b vn' ys vd ds := by
 have h2 := h.bel hb
 exact ⟨h2.oa, h2.ob, h2.ab, ho, fun y m => h2.letter y (hy y m), fun y m => h2.la y (hy y m), fun y m => h2.lb y (hy y m), h2.done, h2.da, h2.db, hl, h2.dlen, fun y m => h2.ld y (hy y m)⟩
end
structure WI (w : World) (base g : Nat) (a b : NVl) (term lead : Int) (vn : Value) (xs : List LV) (vd : Value) (ds : List Op) : Prop where
  blk : Blk w g (encN a ++ encN b).toArray 25
  ge : base ≤ g
  o : WO w base a b vn xs vd ds
  lead : lead = 1 ∨ lead = 2
  term : 0 ≤ term ∧ term ≤ 99
theorem WI.bel {w w' : World} {base g : Nat} {a b : NVl} {term lead : Int} {vn vd : Value} {xs : List LV} {ds : List Op} (h : WI w base g a b term lead vn xs vd ds) (hb : Bel w w') : WI w' base g a b term lead vn xs vd ds :=
 ⟨h.blk.bel hb, h.ge, h.o.bel hb, h.lead, h.term⟩
def WRes (base : Nat) (w : World) (e : Ending) (w' : World) : Prop :=
 ∃ (g : Nat) (a b : NVl) (term lead : Int) (both : Bool) (V : Option Addr) (xs : List LV) (vc : Nat) (D : Option Addr) (ds : List Op) (dc : Nat), e = .returned (.agg #[.slice (some ⟨g, 0, none⟩) 2 2, .int .i64 term, .int .i64 lead, .bool both, .slice V xs.length vc, .slice D ds.length dc]) ∧ WI w' base g a b term lead (.slice V xs.length vc) xs (.slice D ds.length dc) ds ∧ Turn base w w'
section
variable {w w' : World} {base : Nat} {n : Node} {m : Msg} {o : Op} {os : List Op} {x : NVl} {y : LV} {A : Option Addr} {c : Nat} {id : Int}
structure Fine (os : List Op) : Prop where
  ops : SmallOs os
  run : (runP newP os).isSome = true
  len : os.length ≤ 20
theorem NOk.fine (h : NOk w base x) : Fine x.n.ops := ⟨h.ops, h.run, h.len⟩
theorem LOk.fine (h : LOk w base y) : Fine y.m.ops := ⟨h.ops, h.run, h.len⟩
theorem NOk.of (h : Fine n.ops) (ho : OwnT w base (.slice A n.ops.length c) n.ops) : NOk w base ⟨n, A, c⟩ := ⟨ho, h.ops, h.run, h.len⟩
theorem addNB_some {n : Node} {o : Op} (h : addNB n o = true) : (runP newP (n.ops ++ [o])).isSome = true ∧ n.ops.length < 20 := by
 unfold addNB at h
 cases hq : runP newP n.ops with
 | none => rw [hq] at h; cases h
 | some q =>
  rw [hq] at h
  obtain ⟨h1, h2⟩ := (Bool.and_eq_true _ _).mp h
  refine ⟨?_, of_decide_eq_true h2⟩
  rw [runP_snoc, hq]
  exact h1
theorem Fine.add (h : Fine n.ops) (ho : SmallO o) (hb : addNB n o = true) : Fine (n.ops ++ [o]) := by
 obtain ⟨h1, h2⟩ := addNB_some hb
 have hl : (n.ops ++ [o]).length = n.ops.length + 1 := by simp
 refine ⟨⟨by omega, fun x hx => ?_⟩, h1, by omega⟩
 rcases List.mem_append.1 hx with hx | hx
 ·exact h.ops.op x hx
 ·obtain rfl := List.mem_singleton.1 hx
  exact ho
theorem Fine.addN (h : Fine n.ops) (ho : SmallO o) : Fine (addN n o).ops := by
 unfold Go.Proofs.YtljfoglilggkjaaGreat.addN
 split
 ·rename_i hb; exact h.add ho hb
 ·exact h
theorem askB_add (h : askB n o = true) : addNB n o = true := by
 unfold askB at h
 exact ((Bool.and_eq_true _ _).mp ((Bool.and_eq_true _ _).mp h).2).2
theorem Fine.askN (h : Fine n.ops) (ho : SmallO o) : Fine (askN n o).ops := by
 unfold Go.Proofs.YtljfoglilggkjaaGreat.askN
 split
 ·rename_i hb; exact h.add ho (askB_add hb)
 ·exact h
theorem Fine.hearN (h : Fine n.ops) (hm : Fine m.ops) (ho : SmallO m.op) : Fine (hearN n m).ops := by
 unfold Go.Proofs.YtljfoglilggkjaaGreat.hearN copN
 split
 ·split
  ·exact h
  ·split
   ·exact h
   ·split
    ·exact h
    ·exact h.addN ho
 ·split
  ·exact h
  ·split
   ·exact hm
   ·exact h
theorem askM_ok (hb : askB n o = true) : askM n id o = ⟨1, 3 - id, n.term, n.ops.length + 1, o, []⟩ := by unfold askM; rw [if_pos hb]
theorem LOk.nil {k t i : Int} {v : Op} (hk : k = 1 → 1 ≤ i ∧ i ≤ 20) (hid : id = 1 ∨ id = 2) (ho : SmallO v) : LOk w base ⟨⟨k, 3 - id, t, i, v, []⟩, none, 0⟩ :=
 ⟨ownT_nil _ _, ⟨by simp, fun x hx => nomatch hx⟩, ho, rfl, by rcases hid with rfl | rfl <;> simp, hk, by simp⟩
theorem smallO_no : SmallO noO := ⟨Nat.zero_le _, Nat.zero_le _, Nat.zero_le _⟩
theorem hearM_ok (hb : hearB n m = true) : ∃ k t i, hearM n id m = ⟨k, 3 - id, t, i, noO, []⟩ ∧ k ≠ 1 := by
 unfold hearB at hb
 unfold hearM
 split at hb
 ·rename_i h1
  rw [if_pos h1, if_pos hb]
  unfold copB at hb
  unfold copM
  split at hb
  ·cases hb
  ·rename_i h2
   rw [if_neg h2]
   split at hb
   ·rename_i h3
    rw [if_pos h3]
    exact ⟨2, _, _, rfl, by decide⟩
   ·rename_i h3
    rw [if_neg h3]
    split at hb
    ·cases hb
    ·rename_i h4
     rw [if_neg h4]
     exact ⟨2, _, _, rfl, by decide⟩
 ·rename_i h1
  rw [if_neg h1]
  have h2 : nayB n m.kind m.term = false := by simpa using hb
  rw [h2]
  exact ⟨4, _, _, rfl, by decide⟩
end
def cells2 (j : Nat) (x y : NVl) : Array Value := if j = 0 then (encN x ++ encN y).toArray else (encN y ++ encN x).toArray
structure WJ (w : World) (base g j : Nat) (x y : NVl) (term lead : Int) (vn : Value) (xs : List LV) (vd : Value) (ds : List Op) : Prop where
  blk : Blk w g (cells2 j x y) 25
  ge : base ≤ g
  o : WO w base x y vn xs vd ds
  lead : lead = 1 ∨ lead = 2
  term : 0 ≤ term ∧ term ≤ 99
  jl : j < 2
section
variable {w : World} {base g j i : Nat} {a b x y x' : NVl} {term lead : Int} {vn vd u : Value} {xs : List LV} {ds : List Op}
theorem two_j (hj : j < 2) : j = 0 ∨ j = 1 := by omega
theorem WI.toJ (h : WI w base g a b term lead vn xs vd ds) (hj : j < 2) : ∃ x y, WJ w base g j x y term lead vn xs vd ds := by
 rcases two_j hj with rfl | rfl
 ·exact ⟨a, b, h.blk, h.ge, h.o, h.lead, h.term, hj⟩
 ·exact ⟨b, a, h.blk, h.ge, h.o.swap, h.lead, h.term, hj⟩
theorem wi_of (hB : Blk w g (cells2 j x y) 25) (hg : base ≤ g) (ho : WO w base x y vn xs vd ds) (hl : lead = 1 ∨ lead = 2) (ht : 0 ≤ term ∧ term ≤ 99) (hj : j < 2) : ∃ a b, WI w base g a b term lead vn xs vd ds := by
 rcases two_j hj with rfl | rfl
 ·exact ⟨x, y, hB, hg, ho, hl, ht⟩
 ·exact ⟨y, x, hB, hg, ho.swap, hl, ht⟩
theorem WJ.bel {w' : World} (h : WJ w base g j x y term lead vn xs vd ds) (hb : Bel w w') : WJ w' base g j x y term lead vn xs vd ds := ⟨h.blk.bel hb, h.ge, h.o.bel hb, h.lead, h.term, h.jl⟩
theorem idxJ {e : Int} (h : e = 1 ∨ e = 2) : ∃ j : Nat, j < 2 ∧ e = (j : Int) + 1 := by
 rcases h with rfl | rfl
 ·exact ⟨0, by omega, rfl⟩
 ·exact ⟨1, by omega, rfl⟩
theorem WJ.toI (h : WJ w base g j x y term lead vn xs vd ds) : ∃ a b, WI w base g a b term lead vn xs vd ds := wi_of h.blk h.ge h.o h.lead h.term h.jl
theorem cells2_at (hB : Blk w g (cells2 j x y) 25) (hj : j < 2) : w.cell? ⟨g, j * 5, none⟩ = some (.bool x.n.up) ∧ w.cell? ⟨g, j * 5 + 1, none⟩ = some (.int .i64 x.n.term) ∧ w.cell? ⟨g, j * 5 + 2, none⟩ = some (.bool x.n.leads) ∧ w.cell? ⟨g, j * 5 + 3, none⟩ = some (.bool x.n.alone) ∧ w.cell? ⟨g, j * 5 + 4, none⟩ = some (.slice x.A x.n.ops.length x.c) := by
 rcases two_j hj with rfl | rfl
 ·exact ⟨blkn hB 0 _ rfl, blkn hB 1 _ rfl, blkn hB 2 _ rfl, blkn hB 3 _ rfl, blkn hB 4 _ rfl⟩
 ·exact ⟨blkn hB 5 _ rfl, blkn hB 6 _ rfl, blkn hB 7 _ rfl, blkn hB 8 _ rfl, blkn hB 9 _ rfl⟩
theorem cells2_set (hB : Blk w g (cells2 j x y) 25) (hj : j < 2) (hi : i < 5) (e : encN x' = (encN x).set i u) : Blk (w.setCell ⟨g, j * 5 + i, none⟩ u) g (cells2 j x' y) 25 := by
 refine hB.set (j * 5 + i) u ?_
 unfold cells2
 rcases two_j hj with rfl | rfl <;> (obtain rfl | rfl | rfl | rfl | rfl : i = 0 ∨ i = 1 ∨ i = 2 ∨ i = 3 ∨ i = 4 := by omega) <;> rw [e] <;> rfl
theorem cells2_put (hB : Blk w g (cells2 j x y) 25) (hj : j < 2) : Blk (wsets w g (j * 5) (encN x')) g (cells2 j x' y) 25 := by
 rcases two_j hj with rfl | rfl
 ·have h0 : Blk w g (encN x ++ encN y).toArray 25 := hB
  exact ((((h0.set 0 _ rfl).set 1 _ rfl).set 2 _ rfl).set 3 _ rfl).set 4 _ rfl
 ·have h0 : Blk w g (encN y ++ encN x).toArray 25 := hB
  exact ((((h0.set 5 _ rfl).set 6 _ rfl).set 7 _ rfl).set 8 _ rfl).set 9 _ rfl
end
abbrev zeN : Array Value := zN_
abbrev zeM : Array Value := #[.int .i64 0, .int .i64 0, .int .i64 0, .int .i64 0, .int .i64 0, .string ⟨#[]⟩, .string ⟨#[]⟩, .int .i64 0, .string ⟨#[]⟩, .slice none 0 0]
abbrev tupW (n : Node) (m : Msg) (z : Bool) (E : Option Addr) (f : Nat) : Value := .tuple #[.agg #[.bool n.up, .int .i64 n.term, .bool n.leads, .bool n.alone, .slice E n.ops.length f], .agg #[.int .i64 m.kind, .int .i64 m.whom, .int .i64 m.term, .int .i64 m.n, .int .i64 m.op.kind, .string m.op.name, .string m.op.dest, .int .i64 m.op.n, .string m.op.text, .slice none 0 0], .bool z]
theorem allocs3 (w : World) (c0 c1 c2 : Array Value) (t0 t1 t2 : TypeId) :
  Bel w (((w.alloc (.cells c0 t0)).alloc (.cells c1 t1)).alloc (.cells c2 t2)) ∧
  Blk (((w.alloc (.cells c0 t0)).alloc (.cells c1 t1)).alloc (.cells c2 t2)) w.heap.size c0 t0 ∧
  Blk (((w.alloc (.cells c0 t0)).alloc (.cells c1 t1)).alloc (.cells c2 t2)) (w.heap.size + 1) c1 t1 ∧
  Blk (((w.alloc (.cells c0 t0)).alloc (.cells c1 t1)).alloc (.cells c2 t2)) (w.heap.size + 1 + 1) c2 t2 := by
 refine ⟨bel_alloc (bel_alloc (bel_alloc (Below.refl _ _) _) _) _, ((Blk.new _ _ _).alloc _).alloc _, (Blk.nw2 w _ _ _).alloc _, ?_⟩
 have := Blk.new ((w.alloc (.cells c0 t0)).alloc (.cells c1 t1)) c2 t2
 simpa using this
theorem l22Send0_c {w : World} {G V D : Option Addr} {base gn gc vc dn dc : Nat} {term lead : Int} {both : Bool} {xs : List LV} {m : Msg} (hm : m.ops = []) (h : OwnM w base (.slice V xs.length vc) xs) (hbase : base ≤ w.heap.size) (hl : xs.length ≤ 12) :
  Calls Tryz.prog 125 #[.agg #[.slice G gn gc, .int .i64 term, .int .i64 lead, .bool both, .slice V xs.length vc, .slice D dn dc], .agg #[.int .i64 m.kind, .int .i64 m.whom, .int .i64 m.term, .int .i64 m.n, .int .i64 m.op.kind, .string m.op.name, .string m.op.dest, .int .i64 m.op.n, .string m.op.text, .slice none 0 0]] w (SendP base w G D gn gc dn dc term lead both xs ⟨m, none, 0⟩ (.slice V xs.length vc)) := by
 have h2 := l22Send_c (G := G) (D := D) (gn := gn) (gc := gc) (dn := dn) (dc := dc) (term := term) (lead := lead) (both := both) (x := ⟨m, none, 0⟩) h hbase hl
 dsimp only at h2
 rw [hm] at h2
 exact h2
section
variable {w : World} {A V D : Option Addr} {base g j ac vc dc : Nat} {au al aa both : Bool} {ta term lead : Int} {xa ds : List Op} {xs : List LV} {o : Op} {y : NVl}
theorem l22Ask_j (h : WJ w base g j ⟨⟨au, ta, al, aa, xa⟩, A, ac⟩ y term lead (.slice V xs.length vc) xs (.slice D ds.length dc) ds) (hbase : base ≤ w.heap.size) (hso : SmallO o) :
  Calls Tryz.prog 122 #[.agg #[.slice (some ⟨g, 0, none⟩) 2 2, .int .i64 term, .int .i64 lead, .bool both, .slice V xs.length vc, .slice D ds.length dc], .int .i64 ((j : Int) + 1), .agg #[.int .i64 o.kind, .string o.name, .string o.dest, .int .i64 o.n, .string o.text]] w (WRes base w) := by
 have HG := Lib.hid h.blk
 have hjl := h.jl
 have hj2 : (j : Int) < 2 := by omega
 have HWO := Lib.hid h.o
 have HGE := Lib.hid h.ge
 have HLD := Lib.hid h.lead
 have HTM := Lib.hid h.term
 have HBS := Lib.hid hbase
 have HSO := Lib.hid hso
 obtain ⟨q, hq⟩ := Option.isSome_iff_exists.1 HWO.out.oa.run
 have HQ := Lib.hid (show runP newP xa = some q from hq)
 have hgl := HG.out.lt
 obtain ⟨z, hz⟩ : ∃ z, askB ⟨au, ta, al, aa, xa⟩ o = z := ⟨_, rfl⟩
 obtain ⟨xn, hxn⟩ : ∃ x, askN ⟨au, ta, al, aa, xa⟩ o = x := ⟨_, rfl⟩
 obtain ⟨xm, hxm⟩ : ∃ x, askM ⟨au, ta, al, aa, xa⟩ ((j : Int) + 1) o = x := ⟨_, rfl⟩
 have HX := Lib.hid (And.intro hxn (And.intro hxm hz))
 have HFX : Hid (Fine xn.ops) := Lib.hid (hxn ▸ Fine.askN (n := ⟨au, ta, al, aa, xa⟩) HWO.out.oa.fine hso)
 have hw0 : wrap64 (j : Int) = (j : Int) := by unfold wrap64; omega
 clear h hbase hso hq hz hxn hxm
 go_enter Tryz.func122, Tryz.ntmps122
 go_wp2_with fail
 obtain ⟨hW, hB, hP, hR⟩ := allocs3 w (wC g term lead both V xs vc D ds dc) (oC o) zW 62 27 62
 generalize (((w.alloc (.cells (wC g term lead both V xs vc D ds dc) 62)).alloc (.cells (oC o) 27)).alloc (.cells zW 62)) = W0 at hW hB hP hR ⊢
 have HG0 := Lib.hid (HG.out.bel hW)
 have HWO0 := Lib.hid (HWO.out.bel hW)
 have HB := Lib.hid hB
 have HP := Lib.hid hP
 have HR := Lib.hid hR
 have HW := Lib.hid hW
 have HWD : Hid (Bel w W0.drew) := Lib.hid (hW.tr bel_drew)
 have hrl := hR.lt
 have HRL : Hid (∀ k, (Value.slice A xa.length ac).ownBlock = some k → k < w.heap.size) := Lib.hid fun k hk => (HWO.out.oa.own.base k hk).2.1
 have hask := Lib.hid (fun (W : World) (hT : OwnT W base (.slice A xa.length ac) xa) (hs : base ≤ W.heap.size) => (by
  have h2 := l21Ask_c (up := au) (leads := al) (alone := aa) (term := ta) (id := ((j : Int) + 1)) (o := o) hT hs HWO.out.oa.ops HSO.out (by omega) HQ.out
  rw [HX.out.1, HX.out.2.1, HX.out.2.2] at h2
  exact h2 : Calls Tryz.prog 138 #[.agg #[.bool au, .int .i64 ta, .bool al, .bool aa, .slice A xa.length ac], .int .i64 ((j : Int) + 1), .agg #[.int .i64 o.kind, .string o.name, .string o.dest, .int .i64 o.n, .string o.text]] W (AskedN base W xn xm (.slice A xa.length ac) z)))
 clear hW hB hP hR
 have HSF := Lib.hid (fun (W9 : World) (gb : World.grownBy W0.drew W9 (Value.slice A xa.length ac).ownBlock) => (⟨(blkn ((HB.out.bel bel_drew).grown gb (fun e => by have := HRL.out _ e.symm; omega)) 0 _ rfl), (blkn ((HP.out.bel bel_drew).grown gb (fun e => by have := HRL.out _ e.symm; omega)) 0 _ rfl), (blkn ((HP.out.bel bel_drew).grown gb (fun e => by have := HRL.out _ e.symm; omega)) 1 _ rfl), (blkn ((HP.out.bel bel_drew).grown gb (fun e => by have := HRL.out _ e.symm; omega)) 2 _ rfl), (blkn ((HP.out.bel bel_drew).grown gb (fun e => by have := HRL.out _ e.symm; omega)) 3 _ rfl), (blkn ((HP.out.bel bel_drew).grown gb (fun e => by have := HRL.out _ e.symm; omega)) 4 _ rfl), (cells2_at ((HG0.out.bel bel_drew).grown gb (blk_otherT HWO0.out.oa.own HG0.out (by decide))) hjl).1, (cells2_at ((HG0.out.bel bel_drew).grown gb (blk_otherT HWO0.out.oa.own HG0.out (by decide))) hjl).2.1, (cells2_at ((HG0.out.bel bel_drew).grown gb (blk_otherT HWO0.out.oa.own HG0.out (by decide))) hjl).2.2.1, (cells2_at ((HG0.out.bel bel_drew).grown gb (blk_otherT HWO0.out.oa.own HG0.out (by decide))) hjl).2.2.2.1, (cells2_at ((HG0.out.bel bel_drew).grown gb (blk_otherT HWO0.out.oa.own HG0.out (by decide))) hjl).2.2.2.2⟩ : W9.cell? ⟨w.heap.size, 0, none⟩ = some (.slice (some ⟨g, 0, none⟩) 2 2) ∧ W9.cell? ⟨w.heap.size + 1, 0, none⟩ = some (.int .i64 o.kind) ∧ W9.cell? ⟨w.heap.size + 1, 1, none⟩ = some (.string o.name) ∧ W9.cell? ⟨w.heap.size + 1, 2, none⟩ = some (.string o.dest) ∧ W9.cell? ⟨w.heap.size + 1, 3, none⟩ = some (.int .i64 o.n) ∧ W9.cell? ⟨w.heap.size + 1, 4, none⟩ = some (.string o.text) ∧ W9.cell? ⟨g, j * 5, none⟩ = some (.bool au) ∧ W9.cell? ⟨g, j * 5 + 1, none⟩ = some (.int .i64 ta) ∧ W9.cell? ⟨g, j * 5 + 2, none⟩ = some (.bool al) ∧ W9.cell? ⟨g, j * 5 + 3, none⟩ = some (.bool aa) ∧ W9.cell? ⟨g, j * 5 + 4, none⟩ = some (.slice A xa.length ac)))
 refine start_ (n := 18) (S := fun w' => w'.cell? ⟨w.heap.size, 0, none⟩ = some (.slice (some ⟨g, 0, none⟩) 2 2) ∧ w'.cell? ⟨w.heap.size + 1, 0, none⟩ = some (.int .i64 o.kind) ∧ w'.cell? ⟨w.heap.size + 1, 1, none⟩ = some (.string o.name) ∧ w'.cell? ⟨w.heap.size + 1, 2, none⟩ = some (.string o.dest) ∧ w'.cell? ⟨w.heap.size + 1, 3, none⟩ = some (.int .i64 o.n) ∧ w'.cell? ⟨w.heap.size + 1, 4, none⟩ = some (.string o.text) ∧ w'.cell? ⟨g, j * 5, none⟩ = some (.bool au) ∧ w'.cell? ⟨g, j * 5 + 1, none⟩ = some (.int .i64 ta) ∧ w'.cell? ⟨g, j * 5 + 2, none⟩ = some (.bool al) ∧ w'.cell? ⟨g, j * 5 + 3, none⟩ = some (.bool aa) ∧ w'.cell? ⟨g, j * 5 + 4, none⟩ = some (.slice A xa.length ac)) (ds := [15, 16]) #[F, F, F, F, F, F, F, F, F, F, F, F, F, F, F, F, F, F] (by kernel_rfl) rfl rfl ⟨(blkn (HB.out.bel bel_drew) 0 _ rfl), (blkn (HP.out.bel bel_drew) 0 _ rfl), (blkn (HP.out.bel bel_drew) 1 _ rfl), (blkn (HP.out.bel bel_drew) 2 _ rfl), (blkn (HP.out.bel bel_drew) 3 _ rfl), (blkn (HP.out.bel bel_drew) 4 _ rfl), (cells2_at (HG0.out.bel bel_drew) hjl).1, (cells2_at (HG0.out.bel bel_drew) hjl).2.1, (cells2_at (HG0.out.bel bel_drew) hjl).2.2.1, (cells2_at (HG0.out.bel bel_drew) hjl).2.2.2.1, (cells2_at (HG0.out.bel bel_drew) hjl).2.2.2.2⟩ (fun hHeld => ?_)
 refine py 0 (some 11) #[T, F, F, F, F, F, F, F, F, F, F, F, F, F, F, F, F, F] ?_
 refine py 2 (some 13) #[T, F, T, F, F, F, F, F, F, F, F, F, F, F, F, F, F, F] ?_
 refine py 3 (some 14) #[T, F, T, T, F, F, F, F, F, F, F, F, F, F, F, F, F, F] ?_
 refine py 6 (some 17) #[T, F, T, T, F, F, T, F, F, F, F, F, F, F, F, F, F, F] ?_
 refine ty 1 (some 12) #[T, T, T, T, F, F, T, F, F, F, F, F, F, F, F, F, F, F] (hS := hHeld) (hz := by rintro w' ⟨s0, s1, s2, s3, s4, s5, s6, s7, s8, s9, s10⟩; go_simp; with_reducible rfl) (h := ?_)
 refine py 4 (some 15) #[T, T, T, T, T, F, T, F, F, F, F, F, F, F, F, F, F, F] ?_
 refine ty 5 (some 16) #[T, T, T, T, T, T, T, F, F, F, F, F, F, F, F, F, F, F] (hS := hHeld) (hz := by rintro w' ⟨s0, s1, s2, s3, s4, s5, s6, s7, s8, s9, s10⟩; go_simp; with_reducible rfl) (h := ?_)
 refine ty 7 (some 18) #[T, T, T, T, T, T, T, T, F, F, F, F, F, F, F, F, F, F] (hS := hHeld) (hz := by rintro w' ⟨s0, s1, s2, s3, s4, s5, s6, s7, s8, s9, s10⟩; go_simp; with_reducible rfl) (h := ?_)
 refine join_ (σ := Option Addr × Nat × Nat × Nat) 3 #[T, T, T, T, T, T, T, T, T, T, T, T, T, T, T, F, F, F] (fun s => [(19, (tupW xn xm z s.1 s.2.1)), (10, (tupW xn xm z s.1 s.2.1)), (20, .agg #[.bool xn.up, .int .i64 xn.term, .bool xn.leads, .bool xn.alone, .slice s.1 xn.ops.length s.2.1]), (21, .agg #[.int .i64 xm.kind, .int .i64 xm.whom, .int .i64 xm.term, .int .i64 xm.n, .int .i64 xm.op.kind, .string xm.op.name, .string xm.op.dest, .int .i64 xm.op.n, .string xm.op.text, .slice none 0 0]), (22, .bool z), (7, .pointer (some ⟨s.2.2.1, 0, none⟩)), (8, .pointer (some ⟨s.2.2.2, 0, none⟩))]) (fun s w' => World.grownBy W0.drew w' (Value.slice A xa.length ac).ownBlock ∧ (OwnT w' base (.slice s.1 xn.ops.length s.2.1) xn.ops) ∧ (∀ k, (Value.slice s.1 xn.ops.length s.2.1).ownBlock = some k → (Value.slice A xa.length ac).ownBlock = some k ∨ W0.drew.heap.size ≤ k) ∧ (z = false → Value.slice s.1 xn.ops.length s.2.1 = .slice A xa.length ac) ∧ (Blk w' s.2.2.1 zeN 25 ∧ W0.drew.heap.size ≤ s.2.2.1) ∧ (Blk w' s.2.2.2 zeM 29 ∧ W0.drew.heap.size ≤ s.2.2.2) ∧ (s.2.2.1 ≠ s.2.2.2)) ?_ ?_
 rotate_left
 ·intro hJ8_13_14
  refine join_ (σ := Option Addr × Nat × Nat) 4 #[T, T, T, T, T, T, T, T, T, T, T, T, T, T, F, F, F, F] (fun s => [(19, (tupW xn xm z s.1 s.2.1)), (10, (tupW xn xm z s.1 s.2.1)), (20, .agg #[.bool xn.up, .int .i64 xn.term, .bool xn.leads, .bool xn.alone, .slice s.1 xn.ops.length s.2.1]), (21, .agg #[.int .i64 xm.kind, .int .i64 xm.whom, .int .i64 xm.term, .int .i64 xm.n, .int .i64 xm.op.kind, .string xm.op.name, .string xm.op.dest, .int .i64 xm.op.n, .string xm.op.text, .slice none 0 0]), (22, .bool z), (7, .pointer (some ⟨s.2.2, 0, none⟩))]) (fun s w' => World.grownBy W0.drew w' (Value.slice A xa.length ac).ownBlock ∧ (OwnT w' base (.slice s.1 xn.ops.length s.2.1) xn.ops) ∧ (∀ k, (Value.slice s.1 xn.ops.length s.2.1).ownBlock = some k → (Value.slice A xa.length ac).ownBlock = some k ∨ W0.drew.heap.size ≤ k) ∧ (z = false → Value.slice s.1 xn.ops.length s.2.1 = .slice A xa.length ac) ∧ (Blk w' s.2.2 zeN 25 ∧ W0.drew.heap.size ≤ s.2.2)) ?_ ?_
  rotate_left
  ·intro hJ8_13
   refine join_ (σ := Option Addr × Nat × Nat) 4 #[T, T, T, T, T, T, T, T, T, T, T, T, T, F, T, F, F, F] (fun s => [(19, (tupW xn xm z s.1 s.2.1)), (10, (tupW xn xm z s.1 s.2.1)), (20, .agg #[.bool xn.up, .int .i64 xn.term, .bool xn.leads, .bool xn.alone, .slice s.1 xn.ops.length s.2.1]), (21, .agg #[.int .i64 xm.kind, .int .i64 xm.whom, .int .i64 xm.term, .int .i64 xm.n, .int .i64 xm.op.kind, .string xm.op.name, .string xm.op.dest, .int .i64 xm.op.n, .string xm.op.text, .slice none 0 0]), (22, .bool z), (8, .pointer (some ⟨s.2.2, 0, none⟩))]) (fun s w' => World.grownBy W0.drew w' (Value.slice A xa.length ac).ownBlock ∧ (OwnT w' base (.slice s.1 xn.ops.length s.2.1) xn.ops) ∧ (∀ k, (Value.slice s.1 xn.ops.length s.2.1).ownBlock = some k → (Value.slice A xa.length ac).ownBlock = some k ∨ W0.drew.heap.size ≤ k) ∧ (z = false → Value.slice s.1 xn.ops.length s.2.1 = .slice A xa.length ac) ∧ (Blk w' s.2.2 zeM 29 ∧ W0.drew.heap.size ≤ s.2.2)) ?_ ?_
   rotate_left
   ·intro hJ8_14
    refine join_ (σ := Nat × Nat) 8 #[T, T, T, T, T, T, T, T, F, F, F, F, F, T, T, F, F, F] (fun s => [(7, .pointer (some ⟨s.1, 0, none⟩)), (8, .pointer (some ⟨s.2, 0, none⟩))]) (fun s w' => Bel W0.drew w' ∧ (Blk w' s.1 zeN 25 ∧ W0.drew.heap.size ≤ s.1) ∧ (Blk w' s.2 zeM 29 ∧ W0.drew.heap.size ≤ s.2) ∧ (s.1 ≠ s.2)) ?_ ?_
    rotate_left
    ·intro hJ13_14
     refine join_ (σ := Option Addr × Nat) 5 #[T, T, T, T, T, T, T, T, T, T, T, T, T, F, F, F, F, F] (fun s => [(19, (tupW xn xm z s.1 s.2)), (10, (tupW xn xm z s.1 s.2)), (20, .agg #[.bool xn.up, .int .i64 xn.term, .bool xn.leads, .bool xn.alone, .slice s.1 xn.ops.length s.2]), (21, .agg #[.int .i64 xm.kind, .int .i64 xm.whom, .int .i64 xm.term, .int .i64 xm.n, .int .i64 xm.op.kind, .string xm.op.name, .string xm.op.dest, .int .i64 xm.op.n, .string xm.op.text, .slice none 0 0]), (22, .bool z)]) (fun s w' => World.grownBy W0.drew w' (Value.slice A xa.length ac).ownBlock ∧ (OwnT w' base (.slice s.1 xn.ops.length s.2) xn.ops) ∧ (∀ k, (Value.slice s.1 xn.ops.length s.2).ownBlock = some k → (Value.slice A xa.length ac).ownBlock = some k ∨ W0.drew.heap.size ≤ k) ∧ (z = false → Value.slice s.1 xn.ops.length s.2 = .slice A xa.length ac)) ?_ ?_
     rotate_left
     ·intro hJ8
      refine join_ (σ := Nat) 9 #[T, T, T, T, T, T, T, T, F, F, F, F, F, T, F, F, F, F] (fun s => [(7, .pointer (some ⟨s, 0, none⟩))]) (fun s w' => Bel W0.drew w' ∧ (Blk w' s zeN 25 ∧ W0.drew.heap.size ≤ s)) ?_ ?_
      rotate_left
      ·intro hJ13
       refine join_ (σ := Nat) 9 #[T, T, T, T, T, T, T, T, F, F, F, F, F, F, T, F, F, F] (fun s => [(8, .pointer (some ⟨s, 0, none⟩))]) (fun s w' => Bel W0.drew w' ∧ (Blk w' s zeM 29 ∧ W0.drew.heap.size ≤ s)) ?_ ?_
       rotate_left
       ·intro hJ14
        refine three_ (i := 8) (j := 13) (k := 14) (Ni := some 19) (Nj := some 7) (Nk := some 8) #[T, T, T, T, T, T, T, T, T, F, F, F, F, F, F, F, F, F] #[T, T, T, T, T, T, T, T, F, F, F, F, F, T, F, F, F, F] #[T, T, T, T, T, T, T, T, F, F, F, F, F, F, T, F, F, F] rfl rfl rfl rfl rfl rfl (by kernel_rfl) (by decide) (by decide) (by decide) (fun K hK => ?_) (fun K hK => ?_) (fun K hK => ?_)
        ·skip
         refine gox Tryz.func138 #[.agg #[.bool au, .int .i64 ta, .bool al, .bool aa, .slice A xa.length ac], .int .i64 ((j : Int) + 1), .agg #[.int .i64 o.kind, .string o.name, .string o.dest, .int .i64 o.n, .string o.text]] ?_
         with_reducible refine (hask.out _ ((HWO0.out.oa.own.bel bel_drew).bel (Below.refl _ _ : Bel W0.drew W0.drew)) (Nat.le_trans HBS.out (Nat.le_trans (Below.size HWD.out) (Below.size (Below.refl _ _ : Bel W0.drew W0.drew))))).mono ?_
         rintro e wn ⟨v, rfl, hoo, hgN, hat, hvf⟩
         obtain ⟨E, f, rfl, -, -⟩ := hoo.reads
         have gas := Lib.hid hoo
         have gat : Hid (∀ k, (Value.slice E xn.ops.length f).ownBlock = some k → (Value.slice A xa.length ac).ownBlock = some k ∨ W0.drew.heap.size ≤ k) := Lib.hid fun k hk => hat.elim (fun h => .inl (h.symm.trans hk)) (fun ⟨b, h1, h2⟩ => .inr (by rw [h1] at hk; cases hk; exact Nat.le_trans (Below.size (Below.refl _ _ : Bel W0.drew W0.drew)) h2))
         have gvf := Lib.hid hvf
         clear hoo hat hvf
         have gb := Lib.hid (grown_tr (grown_of_bel (Below.refl _ _ : Bel W0.drew W0.drew) (Value.slice A xa.length ac).ownBlock) hgN)
         clear hgN
         refine ⟨_, rfl, ?_⟩
         refine hK.out _ _ (HSF.out _ gb.out) (fun hHeld => ?_)
         clear hK K
         refine nox 19 (h := ?_)
         refine py 9 (some 10) #[T, T, T, T, T, T, T, T, T, T, F, F, F, F, F, F, F, F] ?_
         refine py 10 (some 20) #[T, T, T, T, T, T, T, T, T, T, T, F, F, F, F, F, F, F] ?_
         refine py 11 (some 21) #[T, T, T, T, T, T, T, T, T, T, T, T, F, F, F, F, F, F] ?_
         refine py 12 (some 22) #[T, T, T, T, T, T, T, T, T, T, T, T, T, F, F, F, F, F] ?_
         exact nof (hJ8 (E, f) _ ⟨gb.out, gas.out, gat.out, gvf.out⟩)
        ·skip
         refine vx ?_
         have hbN : Bel W0.drew (W0.alloc (.cells zeN 25)).drew := bel_alloc (Below.refl _ _) _
         have gb := Lib.hid (Below.trans (Below.refl _ _ : Bel W0.drew W0.drew) (Below.mono hbN (Below.size (Below.refl _ _ : Bel W0.drew W0.drew))))
         have gnb1 : Hid (Blk (W0.alloc (.cells zeN 25)).drew W0.heap.size zeN 25 ∧ W0.drew.heap.size ≤ W0.heap.size) := Lib.hid ⟨Blk.new _ _ _, Nat.le_refl _⟩
         clear hbN
         refine hK.out _ _ (HSF.out _ (grown_of_bel gb.out (Value.slice A xa.length ac).ownBlock)) (fun hHeld => ?_)
         clear hK K
         refine nox 7 (h := ?_)
         exact nof (hJ13 (W0.heap.size) _ ⟨gb.out, gnb1.out⟩)
        ·skip
         refine vx ?_
         have hbN : Bel W0.drew (W0.alloc (.cells zeM 29)).drew := bel_alloc (Below.refl _ _) _
         have gb := Lib.hid (Below.trans (Below.refl _ _ : Bel W0.drew W0.drew) (Below.mono hbN (Below.size (Below.refl _ _ : Bel W0.drew W0.drew))))
         have gnb2 : Hid (Blk (W0.alloc (.cells zeM 29)).drew W0.heap.size zeM 29 ∧ W0.drew.heap.size ≤ W0.heap.size) := Lib.hid ⟨Blk.new _ _ _, Nat.le_refl _⟩
         clear hbN
         refine hK.out _ _ (HSF.out _ (grown_of_bel gb.out (Value.slice A xa.length ac).ownBlock)) (fun hHeld => ?_)
         clear hK K
         refine nox 8 (h := ?_)
         exact nof (hJ14 (W0.heap.size) _ ⟨gb.out, gnb2.out⟩)
       ·skip
        rintro nb2 wc ⟨hb, hnb2⟩
        try dsimp only at hnb2
        have hb := Lib.hid hb
        have fnb2 := Lib.hid hnb2
        clear hnb2
        refine norm_ (a' := ?_) ?_ ?_
        rotate_left
        ·simp only [putAll, Act.put, lA, lB, lC]
         rfl
        refine two_ (i := 8) (j := 13) (Ni := some 19) (Nj := some 7) #[T, T, T, T, T, T, T, T, T, F, F, F, F, F, T, F, F, F] #[T, T, T, T, T, T, T, T, F, F, F, F, F, T, T, F, F, F] rfl rfl rfl rfl (by kernel_rfl) (by decide) (by decide) (fun K hK => ?_) (fun K hK => ?_)
        ·skip
         refine gox Tryz.func138 #[.agg #[.bool au, .int .i64 ta, .bool al, .bool aa, .slice A xa.length ac], .int .i64 ((j : Int) + 1), .agg #[.int .i64 o.kind, .string o.name, .string o.dest, .int .i64 o.n, .string o.text]] ?_
         with_reducible refine (hask.out _ ((HWO0.out.oa.own.bel bel_drew).bel hb.out) (Nat.le_trans HBS.out (Nat.le_trans (Below.size HWD.out) (Below.size hb.out)))).mono ?_
         rintro e wn ⟨v, rfl, hoo, hgN, hat, hvf⟩
         obtain ⟨E, f, rfl, -, -⟩ := hoo.reads
         have gas := Lib.hid hoo
         have gat : Hid (∀ k, (Value.slice E xn.ops.length f).ownBlock = some k → (Value.slice A xa.length ac).ownBlock = some k ∨ W0.drew.heap.size ≤ k) := Lib.hid fun k hk => hat.elim (fun h => .inl (h.symm.trans hk)) (fun ⟨b, h1, h2⟩ => .inr (by rw [h1] at hk; cases hk; exact Nat.le_trans (Below.size hb.out) h2))
         have gvf := Lib.hid hvf
         clear hoo hat hvf
         have gb := Lib.hid (grown_tr (grown_of_bel hb.out (Value.slice A xa.length ac).ownBlock) hgN)
         have gnb2 := Lib.hid ((And.intro (fnb2.out.1.grown hgN (fun e => by have := HRL.out _ e.symm; have := fnb2.out.2; have := Below.size HWD.out; omega)) fnb2.out.2))
         clear hgN
         refine ⟨_, rfl, ?_⟩
         refine hK.out _ _ (HSF.out _ gb.out) (fun hHeld => ?_)
         clear hK K
         refine nox 19 (h := ?_)
         refine py 9 (some 10) #[T, T, T, T, T, T, T, T, T, T, F, F, F, F, T, F, F, F] ?_
         refine py 10 (some 20) #[T, T, T, T, T, T, T, T, T, T, T, F, F, F, T, F, F, F] ?_
         refine py 11 (some 21) #[T, T, T, T, T, T, T, T, T, T, T, T, F, F, T, F, F, F] ?_
         refine py 12 (some 22) #[T, T, T, T, T, T, T, T, T, T, T, T, T, F, T, F, F, F] ?_
         exact nof (hJ8_14 (E, f, nb2) _ ⟨gb.out, gas.out, gat.out, gvf.out, gnb2.out⟩)
        ·skip
         refine vx ?_
         have hbN : Bel wc (wc.alloc (.cells zeN 25)) := bel_alloc (Below.refl _ _) _
         have gb := Lib.hid (Below.trans hb.out (Below.mono hbN (Below.size hb.out)))
         have gnb2 := Lib.hid ((And.intro (fnb2.out.1.bel hbN) fnb2.out.2))
         have gnb1 : Hid (Blk (wc.alloc (.cells zeN 25)) wc.heap.size zeN 25 ∧ W0.drew.heap.size ≤ wc.heap.size) := Lib.hid ⟨Blk.new _ _ _, Below.size hb.out⟩
         have gne : Hid (wc.heap.size ≠ nb2) := Lib.hid (Nat.ne_of_gt fnb2.out.1.lt)
         clear hbN
         refine hK.out _ _ (HSF.out _ (grown_of_bel gb.out (Value.slice A xa.length ac).ownBlock)) (fun hHeld => ?_)
         clear hK K
         refine nox 7 (h := ?_)
         exact nof (hJ13_14 (wc.heap.size, nb2) _ ⟨gb.out, gnb1.out, gnb2.out, gne.out⟩)
      ·skip
       rintro nb1 wc ⟨hb, hnb1⟩
       try dsimp only at hnb1
       have hb := Lib.hid hb
       have fnb1 := Lib.hid hnb1
       clear hnb1
       refine norm_ (a' := ?_) ?_ ?_
       rotate_left
       ·simp only [putAll, Act.put, lA, lB, lC]
        rfl
       refine two_ (i := 8) (j := 14) (Ni := some 19) (Nj := some 8) #[T, T, T, T, T, T, T, T, T, F, F, F, F, T, F, F, F, F] #[T, T, T, T, T, T, T, T, F, F, F, F, F, T, T, F, F, F] rfl rfl rfl rfl (by kernel_rfl) (by decide) (by decide) (fun K hK => ?_) (fun K hK => ?_)
       ·skip
        refine gox Tryz.func138 #[.agg #[.bool au, .int .i64 ta, .bool al, .bool aa, .slice A xa.length ac], .int .i64 ((j : Int) + 1), .agg #[.int .i64 o.kind, .string o.name, .string o.dest, .int .i64 o.n, .string o.text]] ?_
        with_reducible refine (hask.out _ ((HWO0.out.oa.own.bel bel_drew).bel hb.out) (Nat.le_trans HBS.out (Nat.le_trans (Below.size HWD.out) (Below.size hb.out)))).mono ?_
        rintro e wn ⟨v, rfl, hoo, hgN, hat, hvf⟩
        obtain ⟨E, f, rfl, -, -⟩ := hoo.reads
        have gas := Lib.hid hoo
        have gat : Hid (∀ k, (Value.slice E xn.ops.length f).ownBlock = some k → (Value.slice A xa.length ac).ownBlock = some k ∨ W0.drew.heap.size ≤ k) := Lib.hid fun k hk => hat.elim (fun h => .inl (h.symm.trans hk)) (fun ⟨b, h1, h2⟩ => .inr (by rw [h1] at hk; cases hk; exact Nat.le_trans (Below.size hb.out) h2))
        have gvf := Lib.hid hvf
        clear hoo hat hvf
        have gb := Lib.hid (grown_tr (grown_of_bel hb.out (Value.slice A xa.length ac).ownBlock) hgN)
        have gnb1 := Lib.hid ((And.intro (fnb1.out.1.grown hgN (fun e => by have := HRL.out _ e.symm; have := fnb1.out.2; have := Below.size HWD.out; omega)) fnb1.out.2))
        clear hgN
        refine ⟨_, rfl, ?_⟩
        refine hK.out _ _ (HSF.out _ gb.out) (fun hHeld => ?_)
        clear hK K
        refine nox 19 (h := ?_)
        refine py 9 (some 10) #[T, T, T, T, T, T, T, T, T, T, F, F, F, T, F, F, F, F] ?_
        refine py 10 (some 20) #[T, T, T, T, T, T, T, T, T, T, T, F, F, T, F, F, F, F] ?_
        refine py 11 (some 21) #[T, T, T, T, T, T, T, T, T, T, T, T, F, T, F, F, F, F] ?_
        refine py 12 (some 22) #[T, T, T, T, T, T, T, T, T, T, T, T, T, T, F, F, F, F] ?_
        exact nof (hJ8_13 (E, f, nb1) _ ⟨gb.out, gas.out, gat.out, gvf.out, gnb1.out⟩)
       ·skip
        refine vx ?_
        have hbN : Bel wc (wc.alloc (.cells zeM 29)) := bel_alloc (Below.refl _ _) _
        have gb := Lib.hid (Below.trans hb.out (Below.mono hbN (Below.size hb.out)))
        have gnb1 := Lib.hid ((And.intro (fnb1.out.1.bel hbN) fnb1.out.2))
        have gnb2 : Hid (Blk (wc.alloc (.cells zeM 29)) wc.heap.size zeM 29 ∧ W0.drew.heap.size ≤ wc.heap.size) := Lib.hid ⟨Blk.new _ _ _, Below.size hb.out⟩
        have gne : Hid (nb1 ≠ wc.heap.size) := Lib.hid (Nat.ne_of_lt fnb1.out.1.lt)
        clear hbN
        refine hK.out _ _ (HSF.out _ (grown_of_bel gb.out (Value.slice A xa.length ac).ownBlock)) (fun hHeld => ?_)
        clear hK K
        refine nox 8 (h := ?_)
        exact nof (hJ13_14 (nb1, wc.heap.size) _ ⟨gb.out, gnb1.out, gnb2.out, gne.out⟩)
     ·skip
      rintro ⟨E, f⟩ wc ⟨hb, has, hat, hvf⟩
      try dsimp only at has
      try dsimp only at hat
      try dsimp only at hvf
      have hb := Lib.hid hb
      have fas := Lib.hid has
      have fat := Lib.hid hat
      have fvf := Lib.hid hvf
      clear has hat hvf
      refine norm_ (a' := ?_) ?_ ?_
      rotate_left
      ·simp only [putAll, Act.put, lA, lB, lC]
       rfl
      refine two_ (i := 13) (j := 14) (Ni := some 7) (Nj := some 8) #[T, T, T, T, T, T, T, T, T, T, T, T, T, T, F, F, F, F] #[T, T, T, T, T, T, T, T, T, T, T, T, T, F, T, F, F, F] rfl rfl rfl rfl (by kernel_rfl) (by decide) (by decide) (fun K hK => ?_) (fun K hK => ?_)
      ·skip
       refine vx ?_
       have hbN : Bel wc (wc.alloc (.cells zeN 25)) := bel_alloc (Below.refl _ _) _
       have gb := Lib.hid (grown_tr hb.out (grown_of_bel hbN (Value.slice A xa.length ac).ownBlock))
       have gas := Lib.hid (OwnT.bel fas.out hbN)
       have gat := Lib.hid (fat.out)
       have gvf := Lib.hid (fvf.out)
       have gnb1 : Hid (Blk (wc.alloc (.cells zeN 25)) wc.heap.size zeN 25 ∧ W0.drew.heap.size ≤ wc.heap.size) := Lib.hid ⟨Blk.new _ _ _, hb.out.size⟩
       clear hbN
       refine hK.out _ _ (HSF.out _ gb.out) (fun hHeld => ?_)
       clear hK K
       refine nox 7 (h := ?_)
       exact nof (hJ8_13 (E, f, wc.heap.size) _ ⟨gb.out, gas.out, gat.out, gvf.out, gnb1.out⟩)
      ·skip
       refine vx ?_
       have hbN : Bel wc (wc.alloc (.cells zeM 29)) := bel_alloc (Below.refl _ _) _
       have gb := Lib.hid (grown_tr hb.out (grown_of_bel hbN (Value.slice A xa.length ac).ownBlock))
       have gas := Lib.hid (OwnT.bel fas.out hbN)
       have gat := Lib.hid (fat.out)
       have gvf := Lib.hid (fvf.out)
       have gnb2 : Hid (Blk (wc.alloc (.cells zeM 29)) wc.heap.size zeM 29 ∧ W0.drew.heap.size ≤ wc.heap.size) := Lib.hid ⟨Blk.new _ _ _, hb.out.size⟩
       clear hbN
       refine hK.out _ _ (HSF.out _ gb.out) (fun hHeld => ?_)
       clear hK K
       refine nox 8 (h := ?_)
       exact nof (hJ8_14 (E, f, wc.heap.size) _ ⟨gb.out, gas.out, gat.out, gvf.out, gnb2.out⟩)
    ·skip
     rintro ⟨nb1, nb2⟩ wc ⟨hb, hnb1, hnb2, hne⟩
     try dsimp only at hnb1
     try dsimp only at hnb2
     try dsimp only at hne
     have hb := Lib.hid hb
     have fnb1 := Lib.hid hnb1
     have fnb2 := Lib.hid hnb2
     have fne := Lib.hid hne
     clear hnb1 hnb2 hne
     refine norm_ (a' := ?_) ?_ ?_
     rotate_left
     ·simp only [putAll, Act.put, lA, lB, lC]
      rfl
     refine ox 8 (some 19) #[T, T, T, T, T, T, T, T, T, F, F, F, F, T, T, F, F, F] fun K hK => ?_
     refine gox Tryz.func138 #[.agg #[.bool au, .int .i64 ta, .bool al, .bool aa, .slice A xa.length ac], .int .i64 ((j : Int) + 1), .agg #[.int .i64 o.kind, .string o.name, .string o.dest, .int .i64 o.n, .string o.text]] ?_
     with_reducible refine (hask.out _ ((HWO0.out.oa.own.bel bel_drew).bel hb.out) (Nat.le_trans HBS.out (Nat.le_trans (Below.size HWD.out) (Below.size hb.out)))).mono ?_
     rintro e wn ⟨v, rfl, hoo, hgN, hat, hvf⟩
     obtain ⟨E, f, rfl, -, -⟩ := hoo.reads
     have gas := Lib.hid hoo
     have gat : Hid (∀ k, (Value.slice E xn.ops.length f).ownBlock = some k → (Value.slice A xa.length ac).ownBlock = some k ∨ W0.drew.heap.size ≤ k) := Lib.hid fun k hk => hat.elim (fun h => .inl (h.symm.trans hk)) (fun ⟨b, h1, h2⟩ => .inr (by rw [h1] at hk; cases hk; exact Nat.le_trans (Below.size hb.out) h2))
     have gvf := Lib.hid hvf
     clear hoo hat hvf
     have gb := Lib.hid (grown_tr (grown_of_bel hb.out (Value.slice A xa.length ac).ownBlock) hgN)
     have gnb1 := Lib.hid ((And.intro (fnb1.out.1.grown hgN (fun e => by have := HRL.out _ e.symm; have := fnb1.out.2; have := Below.size HWD.out; omega)) fnb1.out.2))
     have gnb2 := Lib.hid ((And.intro (fnb2.out.1.grown hgN (fun e => by have := HRL.out _ e.symm; have := fnb2.out.2; have := Below.size HWD.out; omega)) fnb2.out.2))
     have gne := fne
     clear hgN
     refine ⟨_, rfl, ?_⟩
     refine hK.out _ _ (HSF.out _ gb.out) (fun hHeld => ?_)
     clear hK K
     refine nox 19 (h := ?_)
     refine py 9 (some 10) #[T, T, T, T, T, T, T, T, T, T, F, F, F, T, T, F, F, F] ?_
     refine py 10 (some 20) #[T, T, T, T, T, T, T, T, T, T, T, F, F, T, T, F, F, F] ?_
     refine py 11 (some 21) #[T, T, T, T, T, T, T, T, T, T, T, T, F, T, T, F, F, F] ?_
     refine py 12 (some 22) #[T, T, T, T, T, T, T, T, T, T, T, T, T, T, T, F, F, F] ?_
     exact nof (hJ8_13_14 (E, f, nb1, nb2) _ ⟨gb.out, gas.out, gat.out, gvf.out, gnb1.out, gnb2.out, gne.out⟩)
   ·skip
    rintro ⟨E, f, nb2⟩ wc ⟨hb, has, hat, hvf, hnb2⟩
    try dsimp only at has
    try dsimp only at hat
    try dsimp only at hvf
    try dsimp only at hnb2
    have hb := Lib.hid hb
    have fas := Lib.hid has
    have fat := Lib.hid hat
    have fvf := Lib.hid hvf
    have fnb2 := Lib.hid hnb2
    clear has hat hvf hnb2
    refine norm_ (a' := ?_) ?_ ?_
    rotate_left
    ·simp only [putAll, Act.put, lA, lB, lC]
     rfl
    refine ox 13 (some 7) #[T, T, T, T, T, T, T, T, T, T, T, T, T, T, T, F, F, F] fun K hK => ?_
    refine vx ?_
    have hbN : Bel wc (wc.alloc (.cells zeN 25)) := bel_alloc (Below.refl _ _) _
    have gb := Lib.hid (grown_tr hb.out (grown_of_bel hbN (Value.slice A xa.length ac).ownBlock))
    have gas := Lib.hid (OwnT.bel fas.out hbN)
    have gat := Lib.hid (fat.out)
    have gvf := Lib.hid (fvf.out)
    have gnb2 := Lib.hid ((And.intro (fnb2.out.1.bel hbN) fnb2.out.2))
    have gnb1 : Hid (Blk (wc.alloc (.cells zeN 25)) wc.heap.size zeN 25 ∧ W0.drew.heap.size ≤ wc.heap.size) := Lib.hid ⟨Blk.new _ _ _, hb.out.size⟩
    have gne : Hid (wc.heap.size ≠ nb2) := Lib.hid (Nat.ne_of_gt fnb2.out.1.lt)
    clear hbN
    refine hK.out _ _ (HSF.out _ gb.out) (fun hHeld => ?_)
    clear hK K
    refine nox 7 (h := ?_)
    exact nof (hJ8_13_14 (E, f, wc.heap.size, nb2) _ ⟨gb.out, gas.out, gat.out, gvf.out, gnb1.out, gnb2.out, gne.out⟩)
  ·skip
   rintro ⟨E, f, nb1⟩ wc ⟨hb, has, hat, hvf, hnb1⟩
   try dsimp only at has
   try dsimp only at hat
   try dsimp only at hvf
   try dsimp only at hnb1
   have hb := Lib.hid hb
   have fas := Lib.hid has
   have fat := Lib.hid hat
   have fvf := Lib.hid hvf
   have fnb1 := Lib.hid hnb1
   clear has hat hvf hnb1
   refine norm_ (a' := ?_) ?_ ?_
   rotate_left
   ·simp only [putAll, Act.put, lA, lB, lC]
    rfl
   refine ox 14 (some 8) #[T, T, T, T, T, T, T, T, T, T, T, T, T, T, T, F, F, F] fun K hK => ?_
   refine vx ?_
   have hbN : Bel wc (wc.alloc (.cells zeM 29)) := bel_alloc (Below.refl _ _) _
   have gb := Lib.hid (grown_tr hb.out (grown_of_bel hbN (Value.slice A xa.length ac).ownBlock))
   have gas := Lib.hid (OwnT.bel fas.out hbN)
   have gat := Lib.hid (fat.out)
   have gvf := Lib.hid (fvf.out)
   have gnb1 := Lib.hid ((And.intro (fnb1.out.1.bel hbN) fnb1.out.2))
   have gnb2 : Hid (Blk (wc.alloc (.cells zeM 29)) wc.heap.size zeM 29 ∧ W0.drew.heap.size ≤ wc.heap.size) := Lib.hid ⟨Blk.new _ _ _, hb.out.size⟩
   have gne : Hid (nb1 ≠ wc.heap.size) := Lib.hid (Nat.ne_of_lt fnb1.out.1.lt)
   clear hbN
   refine hK.out _ _ (HSF.out _ gb.out) (fun hHeld => ?_)
   clear hK K
   refine nox 8 (h := ?_)
   exact nof (hJ8_13_14 (E, f, nb1, wc.heap.size) _ ⟨gb.out, gas.out, gat.out, gvf.out, gnb1.out, gnb2.out, gne.out⟩)
 rintro ⟨E, f, nb1, nb2⟩ wc ⟨hb, has, hat, hvf, hnb1, hnb2, hne⟩
 try dsimp only at has
 try dsimp only at hat
 try dsimp only at hvf
 try dsimp only at hnb1
 try dsimp only at hnb2
 try dsimp only at hne
 have hb := Lib.hid hb
 have fas := Lib.hid has
 have fat := Lib.hid hat
 have fvf := Lib.hid hvf
 have fnb1 := Lib.hid hnb1
 have fnb2 := Lib.hid hnb2
 have fne := Lib.hid hne
 clear has hat hvf hnb1 hnb2 hne
 obtain ⟨unb10, unb11, unb12, unb13, unb14, vnb10, vnb11, vnb12, vnb13, vnb14, ynb1⟩ := k5f fnb1.out.1
 obtain ⟨unb20, unb21, unb22, unb23, unb24, unb25, unb26, unb27, unb28, unb29, vnb20, vnb21, vnb22, vnb23, vnb24, vnb25, vnb26, vnb27, vnb28, vnb29, ynb2⟩ := k10f fnb2.out.1
 have en1 : ¬ nb1 = nb2 := fne.out
 have en2 : ¬ nb2 = nb1 := fun e => fne.out e.symm
 refine norm_ (a' := ?_) ?_ ?_
 rotate_left
 ·simp only [putAll, Act.put, lA, lB, lC]
  rfl
 refine lx 15 none #[T, T, T, T, T, T, T, T, T, T, T, T, T, T, T, T, F, F] fun K hK => ?_
 refine sx ?_
 refine hK.out _ _ ?_
 clear hK K
 refine lx 16 none #[T, T, T, T, T, T, T, T, T, T, T, T, T, T, T, T, T, F] fun K hK => ?_
 refine sx ?_
 refine hK.out _ _ ?_
 clear hK K
 refine py 17 (some 9) #[T, T, T, T, T, T, T, T, T, T, T, T, T, T, T, T, T, T] ?_
 refine done_ (by kernel_rfl) ?_
 clear en1 en2 unb10 unb11 unb12 unb13 unb14 vnb10 vnb11 vnb12 vnb13 vnb14 unb20 unb21 unb22 unb23 unb24 unb25 unb26 unb27 unb28 unb29 vnb20 vnb21 vnb22 vnb23 vnb24 vnb25 vnb26 vnb27 vnb28 vnb29
 have hP1 : W0.heap.size ≤ nb1 := fnb1.out.2
 have hP2 : W0.heap.size ≤ nb2 := fnb2.out.2
 generalize hW9 : ((((((((((((((((wc.setCell ⟨nb1, 0, none⟩ (.bool xn.up)).setCell ⟨nb1, 1, none⟩ (.int .i64 xn.term)).setCell ⟨nb1, 2, none⟩ (.bool xn.leads)).setCell ⟨nb1, 3, none⟩ (.bool xn.alone)).setCell ⟨nb1, 4, none⟩ (.slice E xn.ops.length f)).setCell ⟨nb2, 0, none⟩ (.int .i64 xm.kind)).setCell ⟨nb2, 1, none⟩ (.int .i64 xm.whom)).setCell ⟨nb2, 2, none⟩ (.int .i64 xm.term)).setCell ⟨nb2, 3, none⟩ (.int .i64 xm.n)).setCell ⟨nb2, 4, none⟩ (.int .i64 xm.op.kind)).setCell ⟨nb2, 5, none⟩ (.string xm.op.name)).setCell ⟨nb2, 6, none⟩ (.string xm.op.dest)).setCell ⟨nb2, 7, none⟩ (.int .i64 xm.op.n)).setCell ⟨nb2, 8, none⟩ (.string xm.op.text)).setCell ⟨nb2, 9, none⟩ (.slice none 0 0))) = W9
 have h2 := two_new (v1 := [.bool xn.up, .int .i64 xn.term, .bool xn.leads, .bool xn.alone, .slice E xn.ops.length f]) (v2 := [.int .i64 xm.kind, .int .i64 xm.whom, .int .i64 xm.term, .int .i64 xm.n, .int .i64 xm.op.kind, .string xm.op.name, .string xm.op.dest, .int .i64 xm.op.n, .string xm.op.text, .slice none 0 0]) hW9 fnb1.out.1 fnb2.out.1 fne.out rfl rfl (by decide) (by decide)
 have hws := Below.size HW.out
 have hg9 : World.grownBy W0 W9 (Value.slice A xa.length ac).ownBlock := grown_tr (grown_of_bel bel_drew _) (h2.grown hb.out hP1 hP2)
 have HB9 := Lib.hid (HB.out.grown hg9 (fun e => by have := HRL.out _ e.symm; omega))
 have HR9 := Lib.hid (HR.out.grown hg9 (fun e => by have := HRL.out _ e.symm; omega))
 have HG9 := Lib.hid (HG0.out.grown hg9 (blk_otherT HWO0.out.oa.own HG0.out (by decide)))
 have HWO9 : Hid (WO W9 base ⟨xn, E, f⟩ y (.slice V xs.length vc) xs (.slice D ds.length dc) ds) := Lib.hid (HWO0.out.growA hg9 (NOk.of HFX.out (h2.ownT fas.out)) fat.out)
 have HT9 : Hid (Turn base w W9) := Lib.hid ((Turn.of_bel HW.out).tr (Turn.grown hg9 (fun k hk => by obtain ⟨h1, h3, cs, h4⟩ := HWO0.out.oa.own.base k hk; exact ⟨h1, cs, _, h4, .inr (.inl rfl)⟩)))
 have H1 := Lib.hid h2.b1
 have H2 := Lib.hid h2.b2
 have hn1 : w.heap.size + 1 + 1 < nb1 := by omega
 have hn2 : w.heap.size + 1 + 1 < nb2 := by omega
 have hl1 : nb1 < W9.heap.size := H1.out.lt
 have hl2 : nb2 < W9.heap.size := H2.out.lt
 have HS9 : Hid (base ≤ W9.heap.size) := Lib.hid (Nat.le_trans HBS.out HT9.out.size)
 clear hW9 h2 hg9 fnb1 fnb2 fas fat hb HSF hP1 hP2 ynb1 ynb2 hask HB HP HR HG0 HWO0 hws
 cases z with
 | false =>
  have hxn : ⟨au, ta, al, aa, xa⟩ = xn := by have h3 := HX.out.1; have h4 : askB ⟨au, ta, al, aa, xa⟩ o = false := HX.out.2.2; unfold askN at h3; rw [h4] at h3; exact h3
  subst hxn
  have hv := slice_eq (fvf.out rfl).symm
  obtain ⟨rfl, -, rfl⟩ := hv
  clear fvf
  obtain ⟨hb9_0, hb9_1, hb9_2, hb9_3, hb9_4, hb9_5, hb9_y⟩ := k6c HB9.out
  obtain ⟨hr9_0, hr9_1, hr9_2, hr9_3, hr9_4, hr9_5, hr9_f0, hr9_f1, hr9_f2, hr9_f3, hr9_f4, hr9_f5, hr9_y⟩ := k6f HR9.out
  go_wp2
  clear hb9_0 hb9_1 hb9_2 hb9_3 hb9_4 hb9_5 hb9_y
  clear hr9_0 hr9_1 hr9_2 hr9_3 hr9_4 hr9_5 hr9_f0 hr9_f1 hr9_f2 hr9_f3 hr9_f4 hr9_f5 hr9_y
  have hR3 := HR9.out.sets [.slice (some ⟨g, 0, none⟩) 2 2, .int .i64 term, .int .i64 lead, .bool both, .slice V xs.length vc, .slice D ds.length dc] rfl
  refine bodyPost_ret (results_cell_row rfl _ _ (w.heap.size + 1 + 1) 62 (wC g term lead both V xs vc D ds dc) (0, 0) _ rfl hR3 Tryz.underlying62 rfl (by kernel_rfl)) rfl ?_
  have hWO := HWO9.out.sets HR9.out (by decide) (by decide) [.slice (some ⟨g, 0, none⟩) 2 2, .int .i64 term, .int .i64 lead, .bool both, .slice V xs.length vc, .slice D ds.length dc] 0
  obtain ⟨a9, b9, hwi⟩ := wi_of (Blk.apartS (by omega) [.slice (some ⟨g, 0, none⟩) 2 2, .int .i64 term, .int .i64 lead, .bool both, .slice V xs.length vc, .slice D ds.length dc] 0 HG9.out) HGE.out (hWO) HLD.out HTM.out hjl
  exact ⟨g, a9, b9, term, lead, both, V, xs, vc, D, ds, dc, rfl, hwi, HT9.out.new (by omega) [.slice (some ⟨g, 0, none⟩) 2 2, .int .i64 term, .int .i64 lead, .bool both, .slice V xs.length vc, .slice D ds.length dc] 0⟩
 | true =>
  have HAM : Hid (xm = ⟨1, 3 - ((j : Int) + 1), ta, xa.length + 1, o, []⟩ ∧ xa.length < 20) := Lib.hid ⟨by have h3 := HX.out.2.1; rw [askM_ok HX.out.2.2] at h3; exact h3.symm, (addNB_some (askB_add HX.out.2.2)).2⟩
  obtain ⟨xu, xt, xl, xe, xo⟩ := xn
  dsimp only at HWO9 H1 HFX
  clear fvf HX
  have hG5 := cells2_put (x' := ⟨⟨xu, xt, xl, xe, xo⟩, E, f⟩) HG9.out hjl
  have hB1 := Blk.apartS (show g ≠ w.heap.size by omega) [.bool xu, .int .i64 xt, .bool xl, .bool xe, .slice E xo.length f] (j * 5) HB9.out
  have hR1 := Blk.apartS (show g ≠ w.heap.size + 1 + 1 by omega) [.bool xu, .int .i64 xt, .bool xl, .bool xe, .slice E xo.length f] (j * 5) HR9.out
  have h11 := Blk.apartS (show g ≠ nb1 by omega) [.bool xu, .int .i64 xt, .bool xl, .bool xe, .slice E xo.length f] (j * 5) H1.out
  have h21 := Blk.apartS (show g ≠ nb2 by omega) [.bool xu, .int .i64 xt, .bool xl, .bool xe, .slice E xo.length f] (j * 5) H2.out
  have hO1 := HWO9.out.sets HG9.out (by decide) (by decide) [.bool xu, .int .i64 xt, .bool xl, .bool xe, .slice E xo.length f] (j * 5)
  have hT1 : Turn base w (((((W9.setCell ⟨g, j * 5, none⟩ (.bool xu)).setCell ⟨g, j * 5 + 1, none⟩ (.int .i64 xt)).setCell ⟨g, j * 5 + 2, none⟩ (.bool xl)).setCell ⟨g, j * 5 + 3, none⟩ (.bool xe)).setCell ⟨g, j * 5 + 4, none⟩ (.slice E xo.length f)) := HT9.out.tr (Turn.grown (grown_wsets g [.bool xu, .int .i64 xt, .bool xl, .bool xe, .slice E xo.length f] W9 (j * 5)) (fun k e => by cases e; exact ⟨HGE.out, _, _, HG9.out, .inl rfl⟩))
  obtain ⟨WS, hWS⟩ : ∃ W, (((((W9.setCell ⟨g, j * 5, none⟩ (.bool xu)).setCell ⟨g, j * 5 + 1, none⟩ (.int .i64 xt)).setCell ⟨g, j * 5 + 2, none⟩ (.bool xl)).setCell ⟨g, j * 5 + 3, none⟩ (.bool xe)).setCell ⟨g, j * 5 + 4, none⟩ (.slice E xo.length f)) = W := ⟨_, rfl⟩
  have HB1 := Lib.hid (show Blk WS w.heap.size (wC g term lead both V xs vc D ds dc) 62 by rw [← hWS]; exact hB1)
  have HR1 := Lib.hid (show Blk WS (w.heap.size + 1 + 1) zW 62 by rw [← hWS]; exact hR1)
  have H11 := Lib.hid (show Blk WS nb1 #[.bool xu, .int .i64 xt, .bool xl, .bool xe, .slice E xo.length f] 25 by rw [← hWS]; exact h11)
  have H21 := Lib.hid (show Blk WS nb2 (mC xm) 29 by rw [← hWS]; exact h21)
  have HG1 := Lib.hid (show Blk WS g (cells2 j ⟨⟨xu, xt, xl, xe, xo⟩, E, f⟩ y) 25 by rw [← hWS]; exact hG5)
  have HO1 := Lib.hid (show WO WS base ⟨⟨xu, xt, xl, xe, xo⟩, E, f⟩ y (.slice V xs.length vc) xs (.slice D ds.length dc) ds by rw [← hWS]; exact hO1)
  have HT1 := Lib.hid (show Turn base w WS by rw [← hWS]; exact hT1)
  have HWS := Lib.hid hWS
  clear hB1 hR1 h11 h21 hO1 hT1 hG5 hWS
  obtain ⟨hb9_0, hb9_1, hb9_2, hb9_3, hb9_4, hb9_5, hb9_y⟩ := k6c HB9.out
  obtain ⟨h1_0, h1_1, h1_2, h1_3, h1_4, h1_y⟩ := k5c H1.out
  obtain ⟨h2_0, h2_1, h2_2, h2_3, h2_4, h2_5, h2_6, h2_7, h2_8, h2_9, h2_y⟩ := k10c H2.out
  obtain ⟨g_0, g_1, g_2, g_3, g_4⟩ := cells2_at HG9.out hjl
  dsimp only at g_0 g_1 g_2 g_3 g_4
  have g_f0 := HG9.out.free (j * 5)
  have g_f1 := HG9.out.free (j * 5 + 1)
  have g_f2 := HG9.out.free (j * 5 + 2)
  have g_f3 := HG9.out.free (j * 5 + 3)
  have g_f4 := HG9.out.free (j * 5 + 4)
  have g_y := HG9.out.lt
  cases xe with
  | false =>
   go_wp2_with fail
   clear hb9_0 hb9_1 hb9_2 hb9_3 hb9_4 hb9_5 hb9_y
   clear h1_0 h1_1 h1_2 h1_3 h1_4 h1_y
   clear h2_0 h2_1 h2_2 h2_3 h2_4 h2_5 h2_6 h2_7 h2_8 h2_9 h2_y
   clear g_0 g_f0 g_1 g_f1 g_2 g_f2 g_3 g_f3 g_4 g_f4 g_y
   rw [HWS.out]
   clear HWO9 HB9 HR9 HG9 HT9 H1 H2
   refine (l22Send0_c (m := xm) (by rw [HAM.out.1]) HO1.out.nets (Nat.le_trans HBS.out HT1.out.size) HO1.out.many).mono ?_
   rintro e w8 ⟨E8, f8, ys, rfl, hy, hn8, hg8⟩
   have hLK : LOk WS base ⟨xm, none, 0⟩ := by rw [HAM.out.1]; exact LOk.nil (id := ((j : Int) + 1)) (fun _ => by have := HAM.out.2; omega) (by omega) HSO.out
   have HWO8 := Lib.hid (HO1.out.send hLK (fun k _ e => by cases e) (fun k _ e => by cases e) (fun k _ e => by cases e) hy hn8 hg8)
   have HR8 := Lib.hid (HR1.out.grown hg8 (own_neM HO1.out.nets HR1.out (by decide)))
   have HG8 := Lib.hid (HG1.out.grown hg8 (own_neM HO1.out.nets HG1.out (by decide)))
   have HT8 := Lib.hid (HT1.out.tr (Turn.grown hg8 (fun k hk => by obtain ⟨h1, h3, cs, h4⟩ := HO1.out.nets.block k hk; exact ⟨h1, cs, _, h4, .inr (.inr rfl)⟩)))
   clear hy hn8 hg8 hLK
   obtain ⟨hr8_0, hr8_1, hr8_2, hr8_3, hr8_4, hr8_5, hr8_f0, hr8_f1, hr8_f2, hr8_f3, hr8_f4, hr8_f5, hr8_y⟩ := k6f HR8.out
   go_wp2
   clear hr8_0 hr8_1 hr8_2 hr8_3 hr8_4 hr8_5 hr8_f0 hr8_f1 hr8_f2 hr8_f3 hr8_f4 hr8_f5 hr8_y
   have hR3 := HR8.out.sets [.slice (some ⟨g, 0, none⟩) 2 2, .int .i64 term, .int .i64 lead, .bool both, .slice E8 ys.length f8, .slice D ds.length dc] rfl
   refine bodyPost_ret (results_cell_row rfl _ _ (w.heap.size + 1 + 1) 62 (wC g term lead both E8 ys f8 D ds dc) (0, 0) _ rfl hR3 Tryz.underlying62 rfl (by kernel_rfl)) rfl ?_
   have hWO := HWO8.out.sets HR8.out (by decide) (by decide) [.slice (some ⟨g, 0, none⟩) 2 2, .int .i64 term, .int .i64 lead, .bool both, .slice E8 ys.length f8, .slice D ds.length dc] 0
   obtain ⟨a9, b9, hwi⟩ := wi_of (Blk.apartS (by omega) [.slice (some ⟨g, 0, none⟩) 2 2, .int .i64 term, .int .i64 lead, .bool both, .slice E8 ys.length f8, .slice D ds.length dc] 0 HG8.out) HGE.out (hWO) HLD.out HTM.out hjl
   exact ⟨g, a9, b9, term, lead, both, E8, ys, f8, D, ds, dc, rfl, hwi, HT8.out.new (by omega) [.slice (some ⟨g, 0, none⟩) 2 2, .int .i64 term, .int .i64 lead, .bool both, .slice E8 ys.length f8, .slice D ds.length dc] 0⟩
  | true =>
   go_wp2_with fail
   clear hb9_0 hb9_1 hb9_2 hb9_3 hb9_4 hb9_5 hb9_y
   clear h1_0 h1_1 h1_2 h1_3 h1_4 h1_y
   clear h2_0 h2_1 h2_2 h2_3 h2_4 h2_5 h2_6 h2_7 h2_8 h2_9 h2_y
   clear g_0 g_f0 g_1 g_f1 g_2 g_f2 g_3 g_f3 g_4 g_f4 g_y
   rw [HWS.out]
   clear HWO9 HB9 HR9 HG9 HT9 H1 H2
   have hrd := HO1.out.oa.own.reads2
   have hcap : xo.length ≤ f := by obtain ⟨A', c', e, h1, _⟩ := HO1.out.oa.own.reads; have e := slice_eq e; obtain ⟨-, -, rfl⟩ := e; exact h1
   refine (l22Done_c (n := ⟨xu, xt, xl, true, xo⟩) hrd hcap HFX.out.len HO1.out.dlen).mono ?_
   rintro e w5 ⟨E5, f5, tk, rfl, hb5, hk5, hd5⟩
   have HB5 := Lib.hid (HB1.out.bel hb5)
   have HR5 := Lib.hid (HR1.out.bel hb5)
   have HG5 := Lib.hid (HG1.out.bel hb5)
   have H25 := Lib.hid (H21.out.bel hb5)
   have HT5 := Lib.hid (HT1.out.tr (Turn.of_bel hb5))
   have HO5 : Hid (WO w5 base ⟨⟨xu, xt, xl, true, xo⟩, E, f⟩ y (.slice V xs.length vc) xs (.slice E5 tk.length f5) tk) := Lib.hid (by
    rcases hd5 with ⟨rfl, rfl, rfl⟩ | hd5
    ·exact HO1.out.bel hb5
    ·exact HO1.out.doneN hb5 (OwnO.tail hd5) (Nat.le_trans HBS.out HT1.out.size) hk5)
   clear hrd hcap hb5 hk5 hd5 HB1 HR1 HG1 H11 H21 HO1 HT1
   obtain ⟨hb5_0, hb5_1, hb5_2, hb5_3, hb5_4, hb5_5, hb5_f0, hb5_f1, hb5_f2, hb5_f3, hb5_f4, hb5_f5, hb5_y⟩ := k6f HB5.out
   obtain ⟨h25_0, h25_1, h25_2, h25_3, h25_4, h25_5, h25_6, h25_7, h25_8, h25_9, h25_y⟩ := k10c H25.out
   go_wp2_with fail
   clear hb5_0 hb5_1 hb5_2 hb5_3 hb5_4 hb5_5 hb5_f0 hb5_f1 hb5_f2 hb5_f3 hb5_f4 hb5_f5 hb5_y
   clear h25_0 h25_1 h25_2 h25_3 h25_4 h25_5 h25_6 h25_7 h25_8 h25_9 h25_y
   have hB6 := HB5.out.sets [.slice (some ⟨g, 0, none⟩) 2 2, .int .i64 term, .int .i64 lead, .bool both, .slice V xs.length vc, .slice E5 tk.length f5] rfl
   have hR6 := Blk.apartS (show w.heap.size ≠ w.heap.size + 1 + 1 by omega) [.slice (some ⟨g, 0, none⟩) 2 2, .int .i64 term, .int .i64 lead, .bool both, .slice V xs.length vc, .slice E5 tk.length f5] 0 HR5.out
   have hG6 := Blk.apartS (show w.heap.size ≠ g by omega) [.slice (some ⟨g, 0, none⟩) 2 2, .int .i64 term, .int .i64 lead, .bool both, .slice V xs.length vc, .slice E5 tk.length f5] 0 HG5.out
   have hO6 := HO5.out.sets HB5.out (by decide) (by decide) [.slice (some ⟨g, 0, none⟩) 2 2, .int .i64 term, .int .i64 lead, .bool both, .slice V xs.length vc, .slice E5 tk.length f5] 0
   have hT6 := HT5.out.new (Nat.le_refl _) [.slice (some ⟨g, 0, none⟩) 2 2, .int .i64 term, .int .i64 lead, .bool both, .slice V xs.length vc, .slice E5 tk.length f5] 0
   obtain ⟨W6, hW6⟩ : ∃ W, ((((((w5.setCell ⟨w.heap.size, 0, none⟩ (.slice (some ⟨g, 0, none⟩) 2 2)).setCell ⟨w.heap.size, 1, none⟩ (.int .i64 term)).setCell ⟨w.heap.size, 2, none⟩ (.int .i64 lead)).setCell ⟨w.heap.size, 3, none⟩ (.bool both)).setCell ⟨w.heap.size, 4, none⟩ (.slice V xs.length vc)).setCell ⟨w.heap.size, 5, none⟩ (.slice E5 tk.length f5)) = W := ⟨_, rfl⟩
   have HR6 := Lib.hid (show Blk W6 (w.heap.size + 1 + 1) zW 62 by rw [← hW6]; exact hR6)
   have HG6 := Lib.hid (show Blk W6 g (cells2 j ⟨⟨xu, xt, xl, true, xo⟩, E, f⟩ y) 25 by rw [← hW6]; exact hG6)
   have HO6 := Lib.hid (show WO W6 base ⟨⟨xu, xt, xl, true, xo⟩, E, f⟩ y (.slice V xs.length vc) xs (.slice E5 tk.length f5) tk by rw [← hW6]; exact hO6)
   have HT6 := Lib.hid (show Turn base w W6 by rw [← hW6]; exact hT6)
   rw [hW6]
   clear hB6 hR6 hG6 hO6 hT6 hW6 HB5 HR5 HG5 HO5 HT5 H25
   refine (l22Send0_c (m := xm) (by rw [HAM.out.1]) HO6.out.nets (Nat.le_trans HBS.out HT6.out.size) HO6.out.many).mono ?_
   rintro e w8 ⟨E8, f8, ys, rfl, hy, hn8, hg8⟩
   have hLK : LOk W6 base ⟨xm, none, 0⟩ := by rw [HAM.out.1]; exact LOk.nil (id := ((j : Int) + 1)) (fun _ => by have := HAM.out.2; omega) (by omega) HSO.out
   have HWO8 := Lib.hid (HO6.out.send hLK (fun k _ e => by cases e) (fun k _ e => by cases e) (fun k _ e => by cases e) hy hn8 hg8)
   have HR8 := Lib.hid (HR6.out.grown hg8 (own_neM HO6.out.nets HR6.out (by decide)))
   have HG8 := Lib.hid (HG6.out.grown hg8 (own_neM HO6.out.nets HG6.out (by decide)))
   have HT8 := Lib.hid (HT6.out.tr (Turn.grown hg8 (fun k hk => by obtain ⟨h1, h3, cs, h4⟩ := HO6.out.nets.block k hk; exact ⟨h1, cs, _, h4, .inr (.inr rfl)⟩)))
   clear hy hn8 hg8 hLK
   obtain ⟨hr8_0, hr8_1, hr8_2, hr8_3, hr8_4, hr8_5, hr8_f0, hr8_f1, hr8_f2, hr8_f3, hr8_f4, hr8_f5, hr8_y⟩ := k6f HR8.out
   go_wp2
   clear hr8_0 hr8_1 hr8_2 hr8_3 hr8_4 hr8_5 hr8_f0 hr8_f1 hr8_f2 hr8_f3 hr8_f4 hr8_f5 hr8_y
   have hR3 := HR8.out.sets [.slice (some ⟨g, 0, none⟩) 2 2, .int .i64 term, .int .i64 lead, .bool both, .slice E8 ys.length f8, .slice E5 tk.length f5] rfl
   refine bodyPost_ret (results_cell_row rfl _ _ (w.heap.size + 1 + 1) 62 (wC g term lead both E8 ys f8 E5 tk f5) (0, 0) _ rfl hR3 Tryz.underlying62 rfl (by kernel_rfl)) rfl ?_
   have hWO := HWO8.out.sets HR8.out (by decide) (by decide) [.slice (some ⟨g, 0, none⟩) 2 2, .int .i64 term, .int .i64 lead, .bool both, .slice E8 ys.length f8, .slice E5 tk.length f5] 0
   obtain ⟨a9, b9, hwi⟩ := wi_of (Blk.apartS (by omega) [.slice (some ⟨g, 0, none⟩) 2 2, .int .i64 term, .int .i64 lead, .bool both, .slice E8 ys.length f8, .slice E5 tk.length f5] 0 HG8.out) HGE.out (hWO) HLD.out HTM.out hjl
   exact ⟨g, a9, b9, term, lead, both, E8, ys, f8, E5, tk, f5, rfl, hwi, HT8.out.new (by omega) [.slice (some ⟨g, 0, none⟩) 2 2, .int .i64 term, .int .i64 lead, .bool both, .slice E8 ys.length f8, .slice E5 tk.length f5] 0⟩
end
section
variable {w : World} {A V D M : Option Addr} {base g j ac vc dc mc : Nat} {au al aa both : Bool} {ta term lead kind mt mn : Int} {xa ds mops : List Op} {xs : List LV} {op : Op} {y : NVl}
theorem l22Bring_j (h : WJ w base g j ⟨⟨au, ta, al, aa, xa⟩, A, ac⟩ y term lead (.slice V xs.length vc) xs (.slice D ds.length dc) ds) (hbase : base ≤ w.heap.size) (hx : LOk w base ⟨⟨kind, ((j : Int) + 1), mt, mn, op, mops⟩, M, mc⟩) :
  Calls Tryz.prog 140 #[.agg #[.slice (some ⟨g, 0, none⟩) 2 2, .int .i64 term, .int .i64 lead, .bool both, .slice V xs.length vc, .slice D ds.length dc], .agg #[.int .i64 kind, .int .i64 ((j : Int) + 1), .int .i64 mt, .int .i64 mn, .int .i64 op.kind, .string op.name, .string op.dest, .int .i64 op.n, .string op.text, .slice M mops.length mc]] w (WRes base w) := by
 have HG := Lib.hid h.blk
 have hjl := h.jl
 have hj2 : (j : Int) < 2 := by omega
 have HWO := Lib.hid h.o
 have HGE := Lib.hid h.ge
 have HLD := Lib.hid h.lead
 have HTM := Lib.hid h.term
 have HBS := Lib.hid hbase
 have HLX := Lib.hid hx
 obtain ⟨q, hq⟩ := Option.isSome_iff_exists.1 HWO.out.oa.run
 have HQ := Lib.hid (show runP newP xa = some q from hq)
 have hgl := HG.out.lt
 have hw0 : wrap64 (j : Int) = (j : Int) := by unfold wrap64; omega
 have hln := HWO.out.oa.len
 clear h hbase hx hq
 cases au with
 | false =>
  go_enter Tryz.func140, Tryz.ntmps140
  obtain ⟨g_0, g_1, g_2, g_3, g_4⟩ := cells2_at HG.out hjl
  dsimp only at g_0 g_1 g_2 g_3 g_4
  have g_f0 := HG.out.free (j * 5)
  have g_f1 := HG.out.free (j * 5 + 1)
  have g_f2 := HG.out.free (j * 5 + 2)
  have g_f3 := HG.out.free (j * 5 + 3)
  have g_f4 := HG.out.free (j * 5 + 4)
  have g_y := HG.out.lt
  have g_y1 : g < w.heap.size + 1 := by omega
  have g_y2 : g < w.heap.size + 1 + 1 := by omega
  have g_n0 : ¬ g = w.heap.size := by omega
  have g_n1 : ¬ g = w.heap.size + 1 := by omega
  have g_n2 : ¬ g = w.heap.size + 1 + 1 := by omega
  go_wp2
  clear g_0 g_f0 g_1 g_f1 g_2 g_f2 g_3 g_f3 g_4 g_f4 g_y g_y1 g_y2 g_n0 g_n1 g_n2
  have hA := allocs4 w (wC g term lead both V xs vc D ds dc) #[.int .i64 kind, .int .i64 ((j : Int) + 1), .int .i64 mt, .int .i64 mn, .int .i64 op.kind, .string op.name, .string op.dest, .int .i64 op.n, .string op.text, .slice M mops.length mc] (wC g term lead both V xs vc D ds dc) #[.bool false, .int .i64 ta, .bool al, .bool aa, .slice A xa.length ac] 62 29 62 25
  refine bodyPost_ret (results_cell_row rfl _ _ (w.heap.size + 1 + 1) 62 (wC g term lead both V xs vc D ds dc) (0, 0) _ rfl hA.2.2.2.1 Tryz.underlying62 rfl (by kernel_rfl)) rfl ?_
  obtain ⟨a9, b9, hwi⟩ := wi_of (HG.out.bel hA.1) HGE.out (HWO.out.bel hA.1) HLD.out HTM.out hjl
  exact ⟨g, a9, b9, term, lead, both, V, xs, vc, D, ds, dc, rfl, hwi, Turn.of_bel hA.1⟩
 | true =>
  by_cases k13 : kind = 1 ∨ kind = 3
  ·obtain ⟨z, hz⟩ : ∃ z, hearB ⟨true, ta, al, aa, xa⟩ ⟨kind, ((j : Int) + 1), mt, mn, op, mops⟩ = z := ⟨_, rfl⟩
   obtain ⟨xn, hxn⟩ : ∃ x, hearN ⟨true, ta, al, aa, xa⟩ ⟨kind, ((j : Int) + 1), mt, mn, op, mops⟩ = x := ⟨_, rfl⟩
   obtain ⟨xm, hxm⟩ : ∃ x, hearM ⟨true, ta, al, aa, xa⟩ ((j : Int) + 1) ⟨kind, ((j : Int) + 1), mt, mn, op, mops⟩ = x := ⟨_, rfl⟩
   have HX := Lib.hid (And.intro hxn (And.intro hxm hz))
   have HFX : Hid (Fine xn.ops) := Lib.hid (hxn ▸ Fine.hearN (n := ⟨true, ta, al, aa, xa⟩) (m := ⟨kind, ((j : Int) + 1), mt, mn, op, mops⟩) HWO.out.oa.fine HLX.out.fine HLX.out.op)
   clear hz hxn hxm
   have key : ∀ (W : World), OwnT W base (.slice A xa.length ac) xa → kOp.C W M mops.length mops → base ≤ W.heap.size → Calls Tryz.prog 40 #[.agg #[.bool true, .int .i64 ta, .bool al, .bool aa, .slice A xa.length ac], .int .i64 ((j : Int) + 1), .agg #[.int .i64 kind, .int .i64 ((j : Int) + 1), .int .i64 mt, .int .i64 mn, .int .i64 op.kind, .string op.name, .string op.dest, .int .i64 op.n, .string op.text, .slice M mops.length mc]] W (HeardN base W xn xm (.slice A xa.length ac) z) := by
    intro W hT hC hs
    have h2 := l21Hear_f (up := true) (leads := al) (alone := aa) (term := ta) (id := ((j : Int) + 1)) (kind := kind) (whom := ((j : Int) + 1)) (mt := mt) (mn := mn) (op := op) (bc := mc) hT hs HWO.out.oa.ops HLX.out.op hC HLX.out.ops.len (by omega) HQ.out HLX.out.n
    rw [HX.out.1, HX.out.2.1, HX.out.2.2] at h2
    exact h2
   have KEY := Lib.hid key
   clear key
   have k14 : (kind == 1) = true ∨ ((kind == 1) = false ∧ (kind == 3) = true) := by rcases k13 with e | e <;> simp [e]
   clear k13
   rcases k14 with d1 | ⟨d1, d3⟩
   all_goals
    go_enter Tryz.func140, Tryz.ntmps140
    obtain ⟨g_0, g_1, g_2, g_3, g_4⟩ := cells2_at HG.out hjl
    dsimp only at g_0 g_1 g_2 g_3 g_4
    have g_f0 := HG.out.free (j * 5)
    have g_f1 := HG.out.free (j * 5 + 1)
    have g_f2 := HG.out.free (j * 5 + 2)
    have g_f3 := HG.out.free (j * 5 + 3)
    have g_f4 := HG.out.free (j * 5 + 4)
    have g_y := HG.out.lt
    have g_y1 : g < w.heap.size + 1 := by omega
    have g_y2 : g < w.heap.size + 1 + 1 := by omega
    have g_n0 : ¬ g = w.heap.size := by omega
    have g_n1 : ¬ g = w.heap.size + 1 := by omega
    have g_n2 : ¬ g = w.heap.size + 1 + 1 := by omega
    go_wp2_with fail
    clear g_0 g_f0 g_1 g_f1 g_2 g_f2 g_3 g_f3 g_4 g_f4 g_y g_y1 g_y2 g_n0 g_n1 g_n2
    obtain ⟨hW, hB, hP, hR, hN⟩ := allocs4 w (wC g term lead both V xs vc D ds dc) #[.int .i64 kind, .int .i64 ((j : Int) + 1), .int .i64 mt, .int .i64 mn, .int .i64 op.kind, .string op.name, .string op.dest, .int .i64 op.n, .string op.text, .slice M mops.length mc] zW #[.bool true, .int .i64 ta, .bool al, .bool aa, .slice A xa.length ac] 62 29 62 25
    generalize ((((w.alloc (.cells (wC g term lead both V xs vc D ds dc) 62)).alloc (.cells #[.int .i64 kind, .int .i64 ((j : Int) + 1), .int .i64 mt, .int .i64 mn, .int .i64 op.kind, .string op.name, .string op.dest, .int .i64 op.n, .string op.text, .slice M mops.length mc] 29)).alloc (.cells zW 62)).alloc (.cells #[.bool true, .int .i64 ta, .bool al, .bool aa, .slice A xa.length ac] 25)) = W0 at hW hB hP hR hN ⊢
    have HG0 := Lib.hid (HG.out.bel hW)
    have HWO0 := Lib.hid (HWO.out.bel hW)
    have HB := Lib.hid hB
    have HP := Lib.hid hP
    have HR := Lib.hid hR
    have HN := Lib.hid hN
    have HT0 : Hid (Turn base w W0) := Lib.hid (Turn.of_bel hW)
    have hW0 := Lib.hid hW
    have hrl := hN.lt
    clear hW hB hP hR hN
    refine (KEY.out W0 HWO0.out.oa.own (HLX.out.own.bel hW0.out).reads2 (Nat.le_trans HBS.out HT0.out.size)).mono ?_
    rintro e w1 ⟨v, rfl, hoo, hgN, hat⟩
    obtain ⟨E, f, rfl, -, -⟩ := hoo.reads
    have HRL : ∀ k, (Value.slice A xa.length ac).ownBlock = some k → k < w.heap.size := fun k hk => (HWO.out.oa.own.base k hk).2.1
    have HB1 := Lib.hid (HB.out.grown hgN (fun e => by have := HRL _ e.symm; omega))
    have HR1 := Lib.hid (HR.out.grown hgN (fun e => by have := HRL _ e.symm; omega))
    have HP1 := Lib.hid (HP.out.grown hgN (fun e => by have := HRL _ e.symm; omega))
    have HG1 := Lib.hid (HG0.out.grown hgN (blk_otherT HWO0.out.oa.own HG0.out (by decide)))
    have HWO1 : Hid (WO w1 base ⟨xn, E, f⟩ y (.slice V xs.length vc) xs (.slice D ds.length dc) ds) := Lib.hid (HWO0.out.growA hgN (NOk.of HFX.out hoo) hat)
    have HT1 := Lib.hid (HT0.out.tr (Turn.grown hgN (fun k hk => by obtain ⟨h1, h3, cs, h4⟩ := HWO0.out.oa.own.base k hk; exact ⟨h1, cs, _, h4, .inr (.inl rfl)⟩)))
    have hrl1 : w.heap.size + 1 + 1 < w1.heap.size := HR1.out.lt
    have hgl1 : g < w1.heap.size := HG1.out.lt
    clear hoo hgN hat HRL HB HR HP HN HG0 HWO0 HT0 hW0 KEY
    obtain ⟨xu, xt, xl, xe, xo⟩ := xn
    dsimp only at HWO1 HFX
    obtain ⟨hb1_0, hb1_1, hb1_2, hb1_3, hb1_4, hb1_5, hb1_f0, hb1_f1, hb1_f2, hb1_f3, hb1_f4, hb1_f5, hb1_y⟩ := k6f HB1.out
    obtain ⟨hp1_0, hp1_1, hp1_2, hp1_3, hp1_4, hp1_5, hp1_6, hp1_7, hp1_8, hp1_9, hp1_y⟩ := k10c HP1.out
    obtain ⟨g_0, g_1, g_2, g_3, g_4⟩ := cells2_at HG1.out hjl
    dsimp only at g_0 g_1 g_2 g_3 g_4
    have g_f0 := HG1.out.free (j * 5)
    have g_f1 := HG1.out.free (j * 5 + 1)
    have g_f2 := HG1.out.free (j * 5 + 2)
    have g_f3 := HG1.out.free (j * 5 + 3)
    have g_f4 := HG1.out.free (j * 5 + 4)
    have g_y := HG1.out.lt
    cases z with
    | false =>
     obtain ⟨hr1_0, hr1_1, hr1_2, hr1_3, hr1_4, hr1_5, hr1_f0, hr1_f1, hr1_f2, hr1_f3, hr1_f4, hr1_f5, hr1_y⟩ := k6f HR1.out
     go_wp2
     clear hr1_0 hr1_1 hr1_2 hr1_3 hr1_4 hr1_5 hr1_f0 hr1_f1 hr1_f2 hr1_f3 hr1_f4 hr1_f5 hr1_y
     clear hb1_0 hb1_1 hb1_2 hb1_3 hb1_4 hb1_5 hb1_f0 hb1_f1 hb1_f2 hb1_f3 hb1_f4 hb1_f5 hb1_y
     clear hp1_0 hp1_1 hp1_2 hp1_3 hp1_4 hp1_5 hp1_6 hp1_7 hp1_8 hp1_9 hp1_y
     clear g_0 g_f0 g_1 g_f1 g_2 g_f2 g_3 g_f3 g_4 g_f4 g_y
     have hG5 := cells2_put (x' := ⟨⟨xu, xt, xl, xe, xo⟩, E, f⟩) HG1.out hjl
     have hba : Bel (((((((((((w1.setCell ⟨g, j * 5, none⟩ (.bool xu)).setCell ⟨g, j * 5 + 1, none⟩ (.int .i64 xt)).setCell ⟨g, j * 5 + 2, none⟩ (.bool xl)).setCell ⟨g, j * 5 + 3, none⟩ (.bool xe)).setCell ⟨g, j * 5 + 4, none⟩ (.slice E xo.length f)).setCell ⟨w.heap.size + 1 + 1, 0, none⟩ (.slice (some ⟨g, 0, none⟩) 2 2)).setCell ⟨w.heap.size + 1 + 1, 1, none⟩ (.int .i64 term)).setCell ⟨w.heap.size + 1 + 1, 2, none⟩ (.int .i64 lead)).setCell ⟨w.heap.size + 1 + 1, 3, none⟩ (.bool both)).setCell ⟨w.heap.size + 1 + 1, 4, none⟩ (.slice V xs.length vc)).setCell ⟨w.heap.size + 1 + 1, 5, none⟩ (.slice D ds.length dc)) (((((((((((((w1.setCell ⟨g, j * 5, none⟩ (.bool xu)).setCell ⟨g, j * 5 + 1, none⟩ (.int .i64 xt)).setCell ⟨g, j * 5 + 2, none⟩ (.bool xl)).setCell ⟨g, j * 5 + 3, none⟩ (.bool xe)).setCell ⟨g, j * 5 + 4, none⟩ (.slice E xo.length f)).setCell ⟨w.heap.size + 1 + 1, 0, none⟩ (.slice (some ⟨g, 0, none⟩) 2 2)).setCell ⟨w.heap.size + 1 + 1, 1, none⟩ (.int .i64 term)).setCell ⟨w.heap.size + 1 + 1, 2, none⟩ (.int .i64 lead)).setCell ⟨w.heap.size + 1 + 1, 3, none⟩ (.bool both)).setCell ⟨w.heap.size + 1 + 1, 4, none⟩ (.slice V xs.length vc)).setCell ⟨w.heap.size + 1 + 1, 5, none⟩ (.slice D ds.length dc)).alloc (.cells #[.bool xu, .int .i64 xt, .bool xl, .bool xe, .slice E xo.length f] 25)).alloc (.cells (mC xm) 29)) := bel_alloc (bel_alloc (Below.refl _ _) _) _
     have hR2 := Blk.apartS (show g ≠ w.heap.size + 1 + 1 by omega) [.bool xu, .int .i64 xt, .bool xl, .bool xe, .slice E xo.length f] (j * 5) HR1.out
     have hR3 := (hR2.sets [.slice (some ⟨g, 0, none⟩) 2 2, .int .i64 term, .int .i64 lead, .bool both, .slice V xs.length vc, .slice D ds.length dc] rfl).bel hba
     have hG6 := (Blk.apartS (show w.heap.size + 1 + 1 ≠ g by omega) [.slice (some ⟨g, 0, none⟩) 2 2, .int .i64 term, .int .i64 lead, .bool both, .slice V xs.length vc, .slice D ds.length dc] 0 hG5).bel hba
     have hO2 := ((HWO1.out.sets HG1.out (by decide) (by decide) [.bool xu, .int .i64 xt, .bool xl, .bool xe, .slice E xo.length f] (j * 5)).sets hR2 (by decide) (by decide) [.slice (some ⟨g, 0, none⟩) 2 2, .int .i64 term, .int .i64 lead, .bool both, .slice V xs.length vc, .slice D ds.length dc] 0).bel hba
     have hT1 : Turn base w (((((w1.setCell ⟨g, j * 5, none⟩ (.bool xu)).setCell ⟨g, j * 5 + 1, none⟩ (.int .i64 xt)).setCell ⟨g, j * 5 + 2, none⟩ (.bool xl)).setCell ⟨g, j * 5 + 3, none⟩ (.bool xe)).setCell ⟨g, j * 5 + 4, none⟩ (.slice E xo.length f)) := HT1.out.tr (Turn.grown (grown_wsets g [.bool xu, .int .i64 xt, .bool xl, .bool xe, .slice E xo.length f] w1 (j * 5)) (fun k e => by cases e; exact ⟨HGE.out, _, _, HG1.out, .inl rfl⟩))
     have hT2 : Turn base w (((((((((((((w1.setCell ⟨g, j * 5, none⟩ (.bool xu)).setCell ⟨g, j * 5 + 1, none⟩ (.int .i64 xt)).setCell ⟨g, j * 5 + 2, none⟩ (.bool xl)).setCell ⟨g, j * 5 + 3, none⟩ (.bool xe)).setCell ⟨g, j * 5 + 4, none⟩ (.slice E xo.length f)).setCell ⟨w.heap.size + 1 + 1, 0, none⟩ (.slice (some ⟨g, 0, none⟩) 2 2)).setCell ⟨w.heap.size + 1 + 1, 1, none⟩ (.int .i64 term)).setCell ⟨w.heap.size + 1 + 1, 2, none⟩ (.int .i64 lead)).setCell ⟨w.heap.size + 1 + 1, 3, none⟩ (.bool both)).setCell ⟨w.heap.size + 1 + 1, 4, none⟩ (.slice V xs.length vc)).setCell ⟨w.heap.size + 1 + 1, 5, none⟩ (.slice D ds.length dc)).alloc (.cells #[.bool xu, .int .i64 xt, .bool xl, .bool xe, .slice E xo.length f] 25)).alloc (.cells (mC xm) 29)) := (hT1.new (show w.heap.size ≤ w.heap.size + 1 + 1 by omega) [.slice (some ⟨g, 0, none⟩) 2 2, .int .i64 term, .int .i64 lead, .bool both, .slice V xs.length vc, .slice D ds.length dc] 0).tr (Turn.of_bel hba)
     refine bodyPost_ret (results_cell_row rfl _ _ (w.heap.size + 1 + 1) 62 (wC g term lead both V xs vc D ds dc) (0, 0) _ rfl hR3 Tryz.underlying62 rfl (by kernel_rfl)) rfl ?_
     obtain ⟨a9, b9, hwi⟩ := wi_of (hG6) HGE.out (hO2) HLD.out HTM.out hjl
     exact ⟨g, a9, b9, term, lead, both, V, xs, vc, D, ds, dc, rfl, hwi, hT2⟩
    | true =>
     go_wp2_with fail
     clear hb1_0 hb1_1 hb1_2 hb1_3 hb1_4 hb1_5 hb1_f0 hb1_f1 hb1_f2 hb1_f3 hb1_f4 hb1_f5 hb1_y
     clear hp1_0 hp1_1 hp1_2 hp1_3 hp1_4 hp1_5 hp1_6 hp1_7 hp1_8 hp1_9 hp1_y
     clear g_0 g_f0 g_1 g_f1 g_2 g_f2 g_3 g_f3 g_4 g_f4 g_y
     have hG5 := cells2_put (x' := ⟨⟨xu, xt, xl, xe, xo⟩, E, f⟩) HG1.out hjl
     have hba : Bel (((((w1.setCell ⟨g, j * 5, none⟩ (.bool xu)).setCell ⟨g, j * 5 + 1, none⟩ (.int .i64 xt)).setCell ⟨g, j * 5 + 2, none⟩ (.bool xl)).setCell ⟨g, j * 5 + 3, none⟩ (.bool xe)).setCell ⟨g, j * 5 + 4, none⟩ (.slice E xo.length f)) (((((((w1.setCell ⟨g, j * 5, none⟩ (.bool xu)).setCell ⟨g, j * 5 + 1, none⟩ (.int .i64 xt)).setCell ⟨g, j * 5 + 2, none⟩ (.bool xl)).setCell ⟨g, j * 5 + 3, none⟩ (.bool xe)).setCell ⟨g, j * 5 + 4, none⟩ (.slice E xo.length f)).alloc (.cells #[.bool xu, .int .i64 xt, .bool xl, .bool xe, .slice E xo.length f] 25)).alloc (.cells (mC xm) 29)) := bel_alloc (bel_alloc (Below.refl _ _) _) _
     have hB2 := (Blk.apartS (show g ≠ w.heap.size by omega) [.bool xu, .int .i64 xt, .bool xl, .bool xe, .slice E xo.length f] (j * 5) HB1.out).bel hba
     have hR2 := (Blk.apartS (show g ≠ w.heap.size + 1 + 1 by omega) [.bool xu, .int .i64 xt, .bool xl, .bool xe, .slice E xo.length f] (j * 5) HR1.out).bel hba
     have hG6 := hG5.bel hba
     have hO2 := (HWO1.out.sets HG1.out (by decide) (by decide) [.bool xu, .int .i64 xt, .bool xl, .bool xe, .slice E xo.length f] (j * 5)).bel hba
     have hT2 : Turn base w (((((((w1.setCell ⟨g, j * 5, none⟩ (.bool xu)).setCell ⟨g, j * 5 + 1, none⟩ (.int .i64 xt)).setCell ⟨g, j * 5 + 2, none⟩ (.bool xl)).setCell ⟨g, j * 5 + 3, none⟩ (.bool xe)).setCell ⟨g, j * 5 + 4, none⟩ (.slice E xo.length f)).alloc (.cells #[.bool xu, .int .i64 xt, .bool xl, .bool xe, .slice E xo.length f] 25)).alloc (.cells (mC xm) 29)) := (HT1.out.tr (Turn.grown (grown_wsets g [.bool xu, .int .i64 xt, .bool xl, .bool xe, .slice E xo.length f] w1 (j * 5)) (fun k e => by cases e; exact ⟨HGE.out, _, _, HG1.out, .inl rfl⟩))).tr (Turn.of_bel hba)
     have hM2 : Blk (((((((w1.setCell ⟨g, j * 5, none⟩ (.bool xu)).setCell ⟨g, j * 5 + 1, none⟩ (.int .i64 xt)).setCell ⟨g, j * 5 + 2, none⟩ (.bool xl)).setCell ⟨g, j * 5 + 3, none⟩ (.bool xe)).setCell ⟨g, j * 5 + 4, none⟩ (.slice E xo.length f)).alloc (.cells #[.bool xu, .int .i64 xt, .bool xl, .bool xe, .slice E xo.length f] 25)).alloc (.cells (mC xm) 29)) (w1.heap.size + 1) (mC xm) 29 := by have := Blk.nw2 (((((w1.setCell ⟨g, j * 5, none⟩ (.bool xu)).setCell ⟨g, j * 5 + 1, none⟩ (.int .i64 xt)).setCell ⟨g, j * 5 + 2, none⟩ (.bool xl)).setCell ⟨g, j * 5 + 3, none⟩ (.bool xe)).setCell ⟨g, j * 5 + 4, none⟩ (.slice E xo.length f)) (.cells #[.bool xu, .int .i64 xt, .bool xl, .bool xe, .slice E xo.length f] 25) (mC xm) 29; simpa using this
     generalize (((((((w1.setCell ⟨g, j * 5, none⟩ (.bool xu)).setCell ⟨g, j * 5 + 1, none⟩ (.int .i64 xt)).setCell ⟨g, j * 5 + 2, none⟩ (.bool xl)).setCell ⟨g, j * 5 + 3, none⟩ (.bool xe)).setCell ⟨g, j * 5 + 4, none⟩ (.slice E xo.length f)).alloc (.cells #[.bool xu, .int .i64 xt, .bool xl, .bool xe, .slice E xo.length f] 25)).alloc (.cells (mC xm) 29)) = W2 at hba hB2 hR2 hG6 hO2 hT2 hM2 ⊢
     have HB2 := Lib.hid hB2
     have HR2 := Lib.hid hR2
     have HG2 := Lib.hid hG6
     have HO2 := Lib.hid hO2
     have HT2 := Lib.hid hT2
     clear hba hB2 hR2 hG5 hG6 hO2 hT2 hM2 HB1 HR1 HP1 HG1 HWO1 HT1
     obtain ⟨hk_, ht_, hi_, HM, hk1⟩ := hearM_ok (id := ((j : Int) + 1)) HX.out.2.2
     have HM : Hid (xm = _) := Lib.hid (HX.out.2.1.symm.trans HM)
     refine (l22Send0_c (m := xm) (by rw [HM.out]) HO2.out.nets (Nat.le_trans HBS.out HT2.out.size) HO2.out.many).mono ?_
     rintro e w8 ⟨E8, f8, ys, rfl, hy, hn8, hg8⟩
     have hLK : LOk W2 base ⟨xm, none, 0⟩ := by rw [HM.out]; exact LOk.nil (id := ((j : Int) + 1)) (fun e => absurd e hk1) (by omega) smallO_no
     have HWO8 := Lib.hid (HO2.out.send hLK (fun k _ e => by cases e) (fun k _ e => by cases e) (fun k _ e => by cases e) hy hn8 hg8)
     have HB8 := Lib.hid (HB2.out.grown hg8 (own_neM HO2.out.nets HB2.out (by decide)))
     have HR8 := Lib.hid (HR2.out.grown hg8 (own_neM HO2.out.nets HR2.out (by decide)))
     have HG8 := Lib.hid (HG2.out.grown hg8 (own_neM HO2.out.nets HG2.out (by decide)))
     have HT8 := Lib.hid (HT2.out.tr (Turn.grown hg8 (fun k hk => by obtain ⟨h1, h3, cs, h4⟩ := HO2.out.nets.block k hk; exact ⟨h1, cs, _, h4, .inr (.inr rfl)⟩)))
     clear hy hn8 hg8 hLK hk1 HB2 HR2 HG2 HO2 HT2
     obtain ⟨hb8_0, hb8_1, hb8_2, hb8_3, hb8_4, hb8_5, hb8_f0, hb8_f1, hb8_f2, hb8_f3, hb8_f4, hb8_f5, hb8_y⟩ := k6f HB8.out
     obtain ⟨hr8_0, hr8_1, hr8_2, hr8_3, hr8_4, hr8_5, hr8_f0, hr8_f1, hr8_f2, hr8_f3, hr8_f4, hr8_f5, hr8_y⟩ := k6f HR8.out
     go_wp2
     clear hb8_0 hb8_1 hb8_2 hb8_3 hb8_4 hb8_5 hb8_f0 hb8_f1 hb8_f2 hb8_f3 hb8_f4 hb8_f5 hb8_y
     clear hr8_0 hr8_1 hr8_2 hr8_3 hr8_4 hr8_5 hr8_f0 hr8_f1 hr8_f2 hr8_f3 hr8_f4 hr8_f5 hr8_y
     have hR9 := Blk.apartS (show w.heap.size ≠ w.heap.size + 1 + 1 by omega) [.slice (some ⟨g, 0, none⟩) 2 2, .int .i64 term, .int .i64 lead, .bool both, .slice E8 ys.length f8, .slice D ds.length dc] 0 HR8.out
     have hG9 := Blk.apartS (show w.heap.size ≠ g by omega) [.slice (some ⟨g, 0, none⟩) 2 2, .int .i64 term, .int .i64 lead, .bool both, .slice E8 ys.length f8, .slice D ds.length dc] 0 HG8.out
     have hO9 := HWO8.out.sets HB8.out (by decide) (by decide) [.slice (some ⟨g, 0, none⟩) 2 2, .int .i64 term, .int .i64 lead, .bool both, .slice E8 ys.length f8, .slice D ds.length dc] 0
     have hT9 := HT8.out.new (Nat.le_refl _) [.slice (some ⟨g, 0, none⟩) 2 2, .int .i64 term, .int .i64 lead, .bool both, .slice E8 ys.length f8, .slice D ds.length dc] 0
     have hRX := Lib.hid hR9
     have hR3 := hRX.out.sets [.slice (some ⟨g, 0, none⟩) 2 2, .int .i64 term, .int .i64 lead, .bool both, .slice E8 ys.length f8, .slice D ds.length dc] rfl
     refine bodyPost_ret (results_cell_row rfl _ _ (w.heap.size + 1 + 1) 62 (wC g term lead both E8 ys f8 D ds dc) (0, 0) _ rfl hR3 Tryz.underlying62 rfl (by kernel_rfl)) rfl ?_
     obtain ⟨a9, b9, hwi⟩ := wi_of (Blk.apartS (by omega) [.slice (some ⟨g, 0, none⟩) 2 2, .int .i64 term, .int .i64 lead, .bool both, .slice E8 ys.length f8, .slice D ds.length dc] 0 hG9) HGE.out (hO9.sets hR9 (by decide) (by decide) [.slice (some ⟨g, 0, none⟩) 2 2, .int .i64 term, .int .i64 lead, .bool both, .slice E8 ys.length f8, .slice D ds.length dc] 0) HLD.out HTM.out hjl
     exact ⟨g, a9, b9, term, lead, both, E8, ys, f8, D, ds, dc, rfl, hwi, hT9.new (by omega) [.slice (some ⟨g, 0, none⟩) 2 2, .int .i64 term, .int .i64 lead, .bool both, .slice E8 ys.length f8, .slice D ds.length dc] 0⟩
  ·have k1 : ¬ kind = 1 := fun e => k13 (.inl e)
   have k3 : ¬ kind = 3 := fun e => k13 (.inr e)
   have d1 : (kind == 1) = false := by simp [k1]
   have d3 : (kind == 3) = false := by simp [k3]
   clear k13
   by_cases kt : mt = ta
   ·subst kt
    cases al with
    | false =>
      go_enter Tryz.func140, Tryz.ntmps140
      obtain ⟨g_0, g_1, g_2, g_3, g_4⟩ := cells2_at HG.out hjl
      dsimp only at g_0 g_1 g_2 g_3 g_4
      have g_f0 := HG.out.free (j * 5)
      have g_f1 := HG.out.free (j * 5 + 1)
      have g_f2 := HG.out.free (j * 5 + 2)
      have g_f3 := HG.out.free (j * 5 + 3)
      have g_f4 := HG.out.free (j * 5 + 4)
      have g_y := HG.out.lt
      have g_y1 : g < w.heap.size + 1 := by omega
      have g_y2 : g < w.heap.size + 1 + 1 := by omega
      have g_n0 : ¬ g = w.heap.size := by omega
      have g_n1 : ¬ g = w.heap.size + 1 := by omega
      have g_n2 : ¬ g = w.heap.size + 1 + 1 := by omega
      go_wp2
      clear g_0 g_f0 g_1 g_f1 g_2 g_f2 g_3 g_f3 g_4 g_f4 g_y g_y1 g_y2 g_n0 g_n1 g_n2
      have hA := allocs4 w (wC g term lead both V xs vc D ds dc) #[.int .i64 kind, .int .i64 ((j : Int) + 1), .int .i64 mt, .int .i64 mn, .int .i64 op.kind, .string op.name, .string op.dest, .int .i64 op.n, .string op.text, .slice M mops.length mc] (wC g term lead both V xs vc D ds dc) #[.bool true, .int .i64 mt, .bool false, .bool aa, .slice A xa.length ac] 62 29 62 25
      refine bodyPost_ret (results_cell_row rfl _ _ (w.heap.size + 1 + 1) 62 (wC g term lead both V xs vc D ds dc) (0, 0) _ rfl hA.2.2.2.1 Tryz.underlying62 rfl (by kernel_rfl)) rfl ?_
      obtain ⟨a9, b9, hwi⟩ := wi_of (HG.out.bel hA.1) HGE.out (HWO.out.bel hA.1) HLD.out HTM.out hjl
      exact ⟨g, a9, b9, term, lead, both, V, xs, vc, D, ds, dc, rfl, hwi, Turn.of_bel hA.1⟩
    | true =>
      by_cases k4 : kind = 4 ∧ mn = (xa.length : Int)
      ·have d4 : (kind == 4) = true := by simp [k4.1]
       have dn : (mn == (xa.length : Int)) = true := by simp [k4.2]
       clear k4
       cases aa with
       | true =>
        go_enter Tryz.func140, Tryz.ntmps140
        obtain ⟨g_0, g_1, g_2, g_3, g_4⟩ := cells2_at HG.out hjl
        dsimp only at g_0 g_1 g_2 g_3 g_4
        have g_f0 := HG.out.free (j * 5)
        have g_f1 := HG.out.free (j * 5 + 1)
        have g_f2 := HG.out.free (j * 5 + 2)
        have g_f3 := HG.out.free (j * 5 + 3)
        have g_f4 := HG.out.free (j * 5 + 4)
        have g_y := HG.out.lt
        have g_y1 : g < w.heap.size + 1 := by omega
        have g_y2 : g < w.heap.size + 1 + 1 := by omega
        have g_n0 : ¬ g = w.heap.size := by omega
        have g_n1 : ¬ g = w.heap.size + 1 := by omega
        have g_n2 : ¬ g = w.heap.size + 1 + 1 := by omega
        go_wp2_with fail
        clear g_0 g_f0 g_1 g_f1 g_2 g_f2 g_3 g_f3 g_4 g_f4 g_y g_y1 g_y2 g_n0 g_n1 g_n2
        have hG1 := cells2_set (i := 3) (x' := ⟨⟨true, mt, true, false, xa⟩, A, ac⟩) HG.out hjl (by omega) rfl
        have hO1 := HWO.out.sets HG.out (by decide) (by decide) [.bool false] (j * 5 + 3)
        have hT1 : Turn base w (w.setCell ⟨g, j * 5 + 3, none⟩ (.bool false)) := Turn.grown (grown_wsets g [.bool false] w (j * 5 + 3)) (fun k e => by cases e; exact ⟨HGE.out, _, _, HG.out, .inl rfl⟩)
        have hsz : ((w.setCell ⟨g, j * 5 + 3, none⟩ (.bool false))).heap.size = w.heap.size := by simp
        have hA := allocs4 (w.setCell ⟨g, j * 5 + 3, none⟩ (.bool false)) (wC g term lead true V xs vc D ds dc) #[.int .i64 kind, .int .i64 ((j : Int) + 1), .int .i64 mt, .int .i64 mn, .int .i64 op.kind, .string op.name, .string op.dest, .int .i64 op.n, .string op.text, .slice M mops.length mc] zW #[.bool true, .int .i64 mt, .bool true, .bool true, .slice A xa.length ac] 62 29 62 25
        rw [hsz] at hA
        obtain ⟨hW, hB, hP, hR, hN⟩ := hA
        generalize (((((w.setCell ⟨g, j * 5 + 3, none⟩ (.bool false)).alloc (.cells (wC g term lead true V xs vc D ds dc) 62)).alloc (.cells #[.int .i64 kind, .int .i64 ((j : Int) + 1), .int .i64 mt, .int .i64 mn, .int .i64 op.kind, .string op.name, .string op.dest, .int .i64 op.n, .string op.text, .slice M mops.length mc] 29)).alloc (.cells zW 62)).alloc (.cells #[.bool true, .int .i64 mt, .bool true, .bool true, .slice A xa.length ac] 25)) = W0 at hW hB hP hR hN ⊢
        have HGx := Lib.hid (hG1.bel hW)
        have HOx := Lib.hid ((show WO (w.setCell ⟨g, j * 5 + 3, none⟩ (.bool false)) base ⟨⟨true, mt, true, false, xa⟩, A, ac⟩ y (.slice V xs.length vc) xs (.slice D ds.length dc) ds from hO1.flagA rfl rfl).bel hW)
        have HTx := Lib.hid (hT1.tr (Turn.of_bel hW))
        have HBx := Lib.hid hB
        have HRx := Lib.hid hR
        have hrl := hN.lt
        clear hW hB hP hR hN hG1 hO1 hT1 hsz
        have hrd := HOx.out.oa.own.reads2
        have hcap : xa.length ≤ ac := by obtain ⟨A', c', e, h1, _⟩ := HOx.out.oa.own.reads; have e := slice_eq e; obtain ⟨-, -, rfl⟩ := e; exact h1
        refine (l22Done_c (n := ⟨true, mt, true, true, xa⟩) hrd hcap HOx.out.oa.len HOx.out.dlen).mono ?_
        rintro e w5 ⟨E5, f5, tk, rfl, hb5, hk5, hd5⟩
        have HR5 := Lib.hid (HRx.out.bel hb5)
        have HG5 := Lib.hid (HGx.out.bel hb5)
        have HT5 := Lib.hid (HTx.out.tr (Turn.of_bel hb5))
        have HO5 : Hid (WO w5 base ⟨⟨true, mt, true, false, xa⟩, A, ac⟩ y (.slice V xs.length vc) xs (.slice E5 tk.length f5) tk) := Lib.hid (by
         rcases hd5 with ⟨rfl, rfl, rfl⟩ | hd5
         ·exact HOx.out.bel hb5
         ·exact HOx.out.doneN hb5 (OwnO.tail hd5) (Nat.le_trans HBS.out HTx.out.size) hk5)
        clear hrd hcap hb5 hk5 hd5
        obtain ⟨hr5_0, hr5_1, hr5_2, hr5_3, hr5_4, hr5_5, hr5_f0, hr5_f1, hr5_f2, hr5_f3, hr5_f4, hr5_f5, hr5_y⟩ := k6f HR5.out
        go_wp2
        clear hr5_0 hr5_1 hr5_2 hr5_3 hr5_4 hr5_5 hr5_f0 hr5_f1 hr5_f2 hr5_f3 hr5_f4 hr5_f5 hr5_y
        have hR3 := HR5.out.sets [.slice (some ⟨g, 0, none⟩) 2 2, .int .i64 term, .int .i64 lead, .bool true, .slice V xs.length vc, .slice E5 tk.length f5] rfl
        refine bodyPost_ret (results_cell_row rfl _ _ (w.heap.size + 1 + 1) 62 (wC g term lead true V xs vc E5 tk f5) (0, 0) _ rfl hR3 Tryz.underlying62 rfl (by kernel_rfl)) rfl ?_
        obtain ⟨a9, b9, hwi⟩ := wi_of (Blk.apartS (by omega) [.slice (some ⟨g, 0, none⟩) 2 2, .int .i64 term, .int .i64 lead, .bool true, .slice V xs.length vc, .slice E5 tk.length f5] 0 HG5.out) HGE.out (HO5.out.sets HR5.out (by decide) (by decide) [.slice (some ⟨g, 0, none⟩) 2 2, .int .i64 term, .int .i64 lead, .bool true, .slice V xs.length vc, .slice E5 tk.length f5] 0) HLD.out HTM.out hjl
        exact ⟨g, a9, b9, term, lead, true, V, xs, vc, E5, tk, f5, rfl, hwi, HT5.out.new (by omega) [.slice (some ⟨g, 0, none⟩) 2 2, .int .i64 term, .int .i64 lead, .bool true, .slice V xs.length vc, .slice E5 tk.length f5] 0⟩
       | false =>
        go_enter Tryz.func140, Tryz.ntmps140
        obtain ⟨g_0, g_1, g_2, g_3, g_4⟩ := cells2_at HG.out hjl
        dsimp only at g_0 g_1 g_2 g_3 g_4
        have g_f0 := HG.out.free (j * 5)
        have g_f1 := HG.out.free (j * 5 + 1)
        have g_f2 := HG.out.free (j * 5 + 2)
        have g_f3 := HG.out.free (j * 5 + 3)
        have g_f4 := HG.out.free (j * 5 + 4)
        have g_y := HG.out.lt
        have g_y1 : g < w.heap.size + 1 := by omega
        have g_y2 : g < w.heap.size + 1 + 1 := by omega
        have g_n0 : ¬ g = w.heap.size := by omega
        have g_n1 : ¬ g = w.heap.size + 1 := by omega
        have g_n2 : ¬ g = w.heap.size + 1 + 1 := by omega
        go_wp2_with fail
        clear g_0 g_f0 g_1 g_f1 g_2 g_f2 g_3 g_f3 g_4 g_f4 g_y g_y1 g_y2 g_n0 g_n1 g_n2
        obtain ⟨hW, hB, hP, hR, hN⟩ := allocs4 w (wC g term lead both V xs vc D ds dc) #[.int .i64 kind, .int .i64 ((j : Int) + 1), .int .i64 mt, .int .i64 mn, .int .i64 op.kind, .string op.name, .string op.dest, .int .i64 op.n, .string op.text, .slice M mops.length mc] zW #[.bool true, .int .i64 mt, .bool true, .bool false, .slice A xa.length ac] 62 29 62 25
        generalize ((((w.alloc (.cells (wC g term lead both V xs vc D ds dc) 62)).alloc (.cells #[.int .i64 kind, .int .i64 ((j : Int) + 1), .int .i64 mt, .int .i64 mn, .int .i64 op.kind, .string op.name, .string op.dest, .int .i64 op.n, .string op.text, .slice M mops.length mc] 29)).alloc (.cells zW 62)).alloc (.cells #[.bool true, .int .i64 mt, .bool true, .bool false, .slice A xa.length ac] 25)) = W0 at hW hB hP hR hN ⊢
        have HG0 := Lib.hid (HG.out.bel hW)
        have HWO0 := Lib.hid (HWO.out.bel hW)
        have HB := Lib.hid hB
        have HP := Lib.hid hP
        have HR := Lib.hid hR
        have HN := Lib.hid hN
        have HT0 : Hid (Turn base w W0) := Lib.hid (Turn.of_bel hW)
        have hW0 := Lib.hid hW
        have hrl := hN.lt
        clear hW hB hP hR hN
        have HBx := HB
        have HGx := HG0
        have HOx := HWO0
        have HTx := HT0
        have HRx := HR
        have hrd := HOx.out.oa.own.reads2
        have hcap : xa.length ≤ ac := by obtain ⟨A', c', e, h1, _⟩ := HOx.out.oa.own.reads; have e := slice_eq e; obtain ⟨-, -, rfl⟩ := e; exact h1
        refine (l22Done_c (n := ⟨true, mt, true, false, xa⟩) hrd hcap HOx.out.oa.len HOx.out.dlen).mono ?_
        rintro e w5 ⟨E5, f5, tk, rfl, hb5, hk5, hd5⟩
        have HR5 := Lib.hid (HRx.out.bel hb5)
        have HG5 := Lib.hid (HGx.out.bel hb5)
        have HT5 := Lib.hid (HTx.out.tr (Turn.of_bel hb5))
        have HO5 : Hid (WO w5 base ⟨⟨true, mt, true, false, xa⟩, A, ac⟩ y (.slice V xs.length vc) xs (.slice E5 tk.length f5) tk) := Lib.hid (by
         rcases hd5 with ⟨rfl, rfl, rfl⟩ | hd5
         ·exact HOx.out.bel hb5
         ·exact HOx.out.doneN hb5 (OwnO.tail hd5) (Nat.le_trans HBS.out HTx.out.size) hk5)
        clear hrd hcap hb5 hk5 hd5
        obtain ⟨hr5_0, hr5_1, hr5_2, hr5_3, hr5_4, hr5_5, hr5_f0, hr5_f1, hr5_f2, hr5_f3, hr5_f4, hr5_f5, hr5_y⟩ := k6f HR5.out
        go_wp2
        clear hr5_0 hr5_1 hr5_2 hr5_3 hr5_4 hr5_5 hr5_f0 hr5_f1 hr5_f2 hr5_f3 hr5_f4 hr5_f5 hr5_y
        have hR3 := HR5.out.sets [.slice (some ⟨g, 0, none⟩) 2 2, .int .i64 term, .int .i64 lead, .bool both, .slice V xs.length vc, .slice E5 tk.length f5] rfl
        refine bodyPost_ret (results_cell_row rfl _ _ (w.heap.size + 1 + 1) 62 (wC g term lead both V xs vc E5 tk f5) (0, 0) _ rfl hR3 Tryz.underlying62 rfl (by kernel_rfl)) rfl ?_
        obtain ⟨a9, b9, hwi⟩ := wi_of (Blk.apartS (by omega) [.slice (some ⟨g, 0, none⟩) 2 2, .int .i64 term, .int .i64 lead, .bool both, .slice V xs.length vc, .slice E5 tk.length f5] 0 HG5.out) HGE.out (HO5.out.sets HR5.out (by decide) (by decide) [.slice (some ⟨g, 0, none⟩) 2 2, .int .i64 term, .int .i64 lead, .bool both, .slice V xs.length vc, .slice E5 tk.length f5] 0) HLD.out HTM.out hjl
        exact ⟨g, a9, b9, term, lead, both, V, xs, vc, E5, tk, f5, rfl, hwi, HT5.out.new (by omega) [.slice (some ⟨g, 0, none⟩) 2 2, .int .i64 term, .int .i64 lead, .bool both, .slice V xs.length vc, .slice E5 tk.length f5] 0⟩
      have k5 : (kind == 4) = false ∨ ((kind == 4) = true ∧ (mn == (xa.length : Int)) = false) := by
       by_cases k6 : kind = 4
       ·exact .inr ⟨by simp [k6], by simp; exact fun e => k4 ⟨k6, e⟩⟩
       ·exact .inl (by simp [k6])
      clear k4
      rcases k5 with d4 | ⟨d4, dn⟩
      all_goals
       go_enter Tryz.func140, Tryz.ntmps140
       obtain ⟨g_0, g_1, g_2, g_3, g_4⟩ := cells2_at HG.out hjl
       dsimp only at g_0 g_1 g_2 g_3 g_4
       have g_f0 := HG.out.free (j * 5)
       have g_f1 := HG.out.free (j * 5 + 1)
       have g_f2 := HG.out.free (j * 5 + 2)
       have g_f3 := HG.out.free (j * 5 + 3)
       have g_f4 := HG.out.free (j * 5 + 4)
       have g_y := HG.out.lt
       have g_y1 : g < w.heap.size + 1 := by omega
       have g_y2 : g < w.heap.size + 1 + 1 := by omega
       have g_n0 : ¬ g = w.heap.size := by omega
       have g_n1 : ¬ g = w.heap.size + 1 := by omega
       have g_n2 : ¬ g = w.heap.size + 1 + 1 := by omega
       go_wp2_with fail
       clear g_0 g_f0 g_1 g_f1 g_2 g_f2 g_3 g_f3 g_4 g_f4 g_y g_y1 g_y2 g_n0 g_n1 g_n2
       obtain ⟨hW, hB, hP, hR, hN⟩ := allocs4 w (wC g term lead both V xs vc D ds dc) #[.int .i64 kind, .int .i64 ((j : Int) + 1), .int .i64 mt, .int .i64 mn, .int .i64 op.kind, .string op.name, .string op.dest, .int .i64 op.n, .string op.text, .slice M mops.length mc] zW #[.bool true, .int .i64 mt, .bool true, .bool aa, .slice A xa.length ac] 62 29 62 25
       generalize ((((w.alloc (.cells (wC g term lead both V xs vc D ds dc) 62)).alloc (.cells #[.int .i64 kind, .int .i64 ((j : Int) + 1), .int .i64 mt, .int .i64 mn, .int .i64 op.kind, .string op.name, .string op.dest, .int .i64 op.n, .string op.text, .slice M mops.length mc] 29)).alloc (.cells zW 62)).alloc (.cells #[.bool true, .int .i64 mt, .bool true, .bool aa, .slice A xa.length ac] 25)) = W0 at hW hB hP hR hN ⊢
       have HG0 := Lib.hid (HG.out.bel hW)
       have HWO0 := Lib.hid (HWO.out.bel hW)
       have HB := Lib.hid hB
       have HP := Lib.hid hP
       have HR := Lib.hid hR
       have HN := Lib.hid hN
       have HT0 : Hid (Turn base w W0) := Lib.hid (Turn.of_bel hW)
       have hW0 := Lib.hid hW
       have hrl := hN.lt
       clear hW hB hP hR hN
       have HBx := HB
       have HGx := HG0
       have HOx := HWO0
       have HTx := HT0
       have HRx := HR
       have hrd := HOx.out.oa.own.reads2
       have hcap : xa.length ≤ ac := by obtain ⟨A', c', e, h1, _⟩ := HOx.out.oa.own.reads; have e := slice_eq e; obtain ⟨-, -, rfl⟩ := e; exact h1
       refine (l22Done_c (n := ⟨true, mt, true, aa, xa⟩) hrd hcap HOx.out.oa.len HOx.out.dlen).mono ?_
       rintro e w5 ⟨E5, f5, tk, rfl, hb5, hk5, hd5⟩
       have HR5 := Lib.hid (HRx.out.bel hb5)
       have HG5 := Lib.hid (HGx.out.bel hb5)
       have HT5 := Lib.hid (HTx.out.tr (Turn.of_bel hb5))
       have HO5 : Hid (WO w5 base ⟨⟨true, mt, true, aa, xa⟩, A, ac⟩ y (.slice V xs.length vc) xs (.slice E5 tk.length f5) tk) := Lib.hid (by
        rcases hd5 with ⟨rfl, rfl, rfl⟩ | hd5
        ·exact HOx.out.bel hb5
        ·exact HOx.out.doneN hb5 (OwnO.tail hd5) (Nat.le_trans HBS.out HTx.out.size) hk5)
       clear hrd hcap hb5 hk5 hd5
       obtain ⟨hr5_0, hr5_1, hr5_2, hr5_3, hr5_4, hr5_5, hr5_f0, hr5_f1, hr5_f2, hr5_f3, hr5_f4, hr5_f5, hr5_y⟩ := k6f HR5.out
       go_wp2
       clear hr5_0 hr5_1 hr5_2 hr5_3 hr5_4 hr5_5 hr5_f0 hr5_f1 hr5_f2 hr5_f3 hr5_f4 hr5_f5 hr5_y
       have hR3 := HR5.out.sets [.slice (some ⟨g, 0, none⟩) 2 2, .int .i64 term, .int .i64 lead, .bool both, .slice V xs.length vc, .slice E5 tk.length f5] rfl
       refine bodyPost_ret (results_cell_row rfl _ _ (w.heap.size + 1 + 1) 62 (wC g term lead both V xs vc E5 tk f5) (0, 0) _ rfl hR3 Tryz.underlying62 rfl (by kernel_rfl)) rfl ?_
       obtain ⟨a9, b9, hwi⟩ := wi_of (Blk.apartS (by omega) [.slice (some ⟨g, 0, none⟩) 2 2, .int .i64 term, .int .i64 lead, .bool both, .slice V xs.length vc, .slice E5 tk.length f5] 0 HG5.out) HGE.out (HO5.out.sets HR5.out (by decide) (by decide) [.slice (some ⟨g, 0, none⟩) 2 2, .int .i64 term, .int .i64 lead, .bool both, .slice V xs.length vc, .slice E5 tk.length f5] 0) HLD.out HTM.out hjl
       exact ⟨g, a9, b9, term, lead, both, V, xs, vc, E5, tk, f5, rfl, hwi, HT5.out.new (by omega) [.slice (some ⟨g, 0, none⟩) 2 2, .int .i64 term, .int .i64 lead, .bool both, .slice V xs.length vc, .slice E5 tk.length f5] 0⟩
   ·have dt : (mt == ta) = false := by simp [kt]
    have dt2 : (mt != ta) = true := by simp [kt]
    go_enter Tryz.func140, Tryz.ntmps140
    obtain ⟨g_0, g_1, g_2, g_3, g_4⟩ := cells2_at HG.out hjl
    dsimp only at g_0 g_1 g_2 g_3 g_4
    have g_f0 := HG.out.free (j * 5)
    have g_f1 := HG.out.free (j * 5 + 1)
    have g_f2 := HG.out.free (j * 5 + 2)
    have g_f3 := HG.out.free (j * 5 + 3)
    have g_f4 := HG.out.free (j * 5 + 4)
    have g_y := HG.out.lt
    have g_y1 : g < w.heap.size + 1 := by omega
    have g_y2 : g < w.heap.size + 1 + 1 := by omega
    have g_n0 : ¬ g = w.heap.size := by omega
    have g_n1 : ¬ g = w.heap.size + 1 := by omega
    have g_n2 : ¬ g = w.heap.size + 1 + 1 := by omega
    go_wp2
    clear g_0 g_f0 g_1 g_f1 g_2 g_f2 g_3 g_f3 g_4 g_f4 g_y g_y1 g_y2 g_n0 g_n1 g_n2
    have hA := allocs4 w (wC g term lead both V xs vc D ds dc) #[.int .i64 kind, .int .i64 ((j : Int) + 1), .int .i64 mt, .int .i64 mn, .int .i64 op.kind, .string op.name, .string op.dest, .int .i64 op.n, .string op.text, .slice M mops.length mc] (wC g term lead both V xs vc D ds dc) #[.bool true, .int .i64 ta, .bool al, .bool aa, .slice A xa.length ac] 62 29 62 25
    refine bodyPost_ret (results_cell_row rfl _ _ (w.heap.size + 1 + 1) 62 (wC g term lead both V xs vc D ds dc) (0, 0) _ rfl hA.2.2.2.1 Tryz.underlying62 rfl (by kernel_rfl)) rfl ?_
    obtain ⟨a9, b9, hwi⟩ := wi_of (HG.out.bel hA.1) HGE.out (HWO.out.bel hA.1) HLD.out HTM.out hjl
    exact ⟨g, a9, b9, term, lead, both, V, xs, vc, D, ds, dc, rfl, hwi, Turn.of_bel hA.1⟩
end
section
variable {w : World} {A V D : Option Addr} {base g j ac vc dc : Nat} {au al aa both : Bool} {ta term lead : Int} {xa ds : List Op} {xs : List LV} {y : NVl}
theorem l22Lead_j (h : WJ w base g j ⟨⟨au, ta, al, aa, xa⟩, A, ac⟩ y term lead (.slice V xs.length vc) xs (.slice D ds.length dc) ds) (hbase : base ≤ w.heap.size) :
  Calls Tryz.prog 124 #[.agg #[.slice (some ⟨g, 0, none⟩) 2 2, .int .i64 term, .int .i64 lead, .bool both, .slice V xs.length vc, .slice D ds.length dc], .int .i64 ((j : Int) + 1)] w (WRes base w) := by
 by_cases ht : term < 99
 ·have HG := Lib.hid h.blk
  have HWO := Lib.hid h.o
  have HGE := Lib.hid h.ge
  have HTM := Lib.hid h.term
  have hjl := h.jl
  have hj2 : (j : Int) < 2 := by omega
  have hl := h.o.oa.len
  have hd := h.o.dlen
  have ht0 := h.term.1
  have HBS := Lib.hid hbase
  have HCAP : Hid (xa.length ≤ ac) := Lib.hid (by obtain ⟨A', c', e, h1, _⟩ := h.o.oa.own.reads; have e := slice_eq e; obtain ⟨-, -, rfl⟩ := e; exact h1)
  have hw0 : wrap64 (j : Int) = (j : Int) := by unfold wrap64; omega
  have hw1 : wrap64 (term + 1) = term + 1 := by unfold wrap64; omega
  clear h hbase
  have hgl := HG.out.lt
  obtain ⟨g_0, g_1, g_2, g_3, g_4⟩ := cells2_at HG.out hjl
  dsimp only at g_0 g_1 g_2 g_3 g_4
  have g_f0 := HG.out.free (j * 5)
  have g_f1 := HG.out.free (j * 5 + 1)
  have g_f2 := HG.out.free (j * 5 + 2)
  have g_f3 := HG.out.free (j * 5 + 3)
  have g_f4 := HG.out.free (j * 5 + 4)
  go_enter Tryz.func124, Tryz.ntmps124
  go_wp2
  clear g_0 g_1 g_2 g_3 g_4 g_f0 g_f1 g_f2 g_f3 g_f4
  have hG1 := cells2_set (i := 1) (x' := ⟨⟨au, term + 1, al, aa, xa⟩, A, ac⟩) HG.out hjl (by omega) rfl
  have hG2 := cells2_set (i := 2) (x' := ⟨⟨au, term + 1, true, aa, xa⟩, A, ac⟩) hG1 hjl (by omega) rfl
  have hG3 := cells2_set (i := 3) (x' := ⟨⟨au, term + 1, true, true, xa⟩, A, ac⟩) hG2 hjl (by omega) rfl
  have hO3 := ((HWO.out.sets HG.out (by decide) (by decide) [.int .i64 (term + 1)] (j * 5 + 1)).sets hG1 (by decide) (by decide) [.bool true] (j * 5 + 2)).sets hG2 (by decide) (by decide) [.bool true] (j * 5 + 3)
  have hT3 : Turn base w (((w.setCell ⟨g, j * 5 + 1, none⟩ (.int .i64 (term + 1))).setCell ⟨g, j * 5 + 2, none⟩ (.bool true)).setCell ⟨g, j * 5 + 3, none⟩ (.bool true)) := ((Turn.grown (grown_wsets g [.int .i64 (term + 1)] w (j * 5 + 1)) (fun k e => by cases e; exact ⟨HGE.out, _, _, HG.out, .inl rfl⟩)).tr (Turn.grown (grown_wsets g [.bool true] _ (j * 5 + 2)) (fun k e => by cases e; exact ⟨HGE.out, _, _, hG1, .inl rfl⟩))).tr (Turn.grown (grown_wsets g [.bool true] _ (j * 5 + 3)) (fun k e => by cases e; exact ⟨HGE.out, _, _, hG2, .inl rfl⟩))
  have hB : Blk (((((w.setCell ⟨g, j * 5 + 1, none⟩ (.int .i64 (term + 1))).setCell ⟨g, j * 5 + 2, none⟩ (.bool true)).setCell ⟨g, j * 5 + 3, none⟩ (.bool true)).alloc (.cells #[.slice (some ⟨g, 0, none⟩) 2 2, .int .i64 (term + 1), .int .i64 ((j : Int) + 1), .bool false, .slice V xs.length vc, .slice D ds.length dc] 62)).alloc (.cells zW 62)) w.heap.size #[.slice (some ⟨g, 0, none⟩) 2 2, .int .i64 (term + 1), .int .i64 ((j : Int) + 1), .bool false, .slice V xs.length vc, .slice D ds.length dc] 62 := by have := (Blk.new (((w.setCell ⟨g, j * 5 + 1, none⟩ (.int .i64 (term + 1))).setCell ⟨g, j * 5 + 2, none⟩ (.bool true)).setCell ⟨g, j * 5 + 3, none⟩ (.bool true)) #[.slice (some ⟨g, 0, none⟩) 2 2, .int .i64 (term + 1), .int .i64 ((j : Int) + 1), .bool false, .slice V xs.length vc, .slice D ds.length dc] 62).alloc (.cells zW 62); simpa using this
  have hR : Blk (((((w.setCell ⟨g, j * 5 + 1, none⟩ (.int .i64 (term + 1))).setCell ⟨g, j * 5 + 2, none⟩ (.bool true)).setCell ⟨g, j * 5 + 3, none⟩ (.bool true)).alloc (.cells #[.slice (some ⟨g, 0, none⟩) 2 2, .int .i64 (term + 1), .int .i64 ((j : Int) + 1), .bool false, .slice V xs.length vc, .slice D ds.length dc] 62)).alloc (.cells zW 62)) (w.heap.size + 1) zW 62 := by have h2 := Blk.new ((((w.setCell ⟨g, j * 5 + 1, none⟩ (.int .i64 (term + 1))).setCell ⟨g, j * 5 + 2, none⟩ (.bool true)).setCell ⟨g, j * 5 + 3, none⟩ (.bool true)).alloc (.cells #[.slice (some ⟨g, 0, none⟩) 2 2, .int .i64 (term + 1), .int .i64 ((j : Int) + 1), .bool false, .slice V xs.length vc, .slice D ds.length dc] 62)) zW 62; simpa using h2
  have hbb : Bel (((w.setCell ⟨g, j * 5 + 1, none⟩ (.int .i64 (term + 1))).setCell ⟨g, j * 5 + 2, none⟩ (.bool true)).setCell ⟨g, j * 5 + 3, none⟩ (.bool true)) (((((w.setCell ⟨g, j * 5 + 1, none⟩ (.int .i64 (term + 1))).setCell ⟨g, j * 5 + 2, none⟩ (.bool true)).setCell ⟨g, j * 5 + 3, none⟩ (.bool true)).alloc (.cells #[.slice (some ⟨g, 0, none⟩) 2 2, .int .i64 (term + 1), .int .i64 ((j : Int) + 1), .bool false, .slice V xs.length vc, .slice D ds.length dc] 62)).alloc (.cells zW 62)) := bel_alloc (bel_alloc (Below.refl _ _) _) _
  have hG4 := hG3.bel hbb
  have hO4 : WO (((((w.setCell ⟨g, j * 5 + 1, none⟩ (.int .i64 (term + 1))).setCell ⟨g, j * 5 + 2, none⟩ (.bool true)).setCell ⟨g, j * 5 + 3, none⟩ (.bool true)).alloc (.cells #[.slice (some ⟨g, 0, none⟩) 2 2, .int .i64 (term + 1), .int .i64 ((j : Int) + 1), .bool false, .slice V xs.length vc, .slice D ds.length dc] 62)).alloc (.cells zW 62)) base ⟨⟨au, term + 1, true, true, xa⟩, A, ac⟩ y (.slice V xs.length vc) xs (.slice D ds.length dc) ds := (show WO (((w.setCell ⟨g, j * 5 + 1, none⟩ (.int .i64 (term + 1))).setCell ⟨g, j * 5 + 2, none⟩ (.bool true)).setCell ⟨g, j * 5 + 3, none⟩ (.bool true)) base ⟨⟨au, term + 1, true, true, xa⟩, A, ac⟩ y (.slice V xs.length vc) xs (.slice D ds.length dc) ds from hO3.flagA rfl rfl).bel hbb
  have hT4 := hT3.tr (Turn.of_bel hbb)
  generalize (((((w.setCell ⟨g, j * 5 + 1, none⟩ (.int .i64 (term + 1))).setCell ⟨g, j * 5 + 2, none⟩ (.bool true)).setCell ⟨g, j * 5 + 3, none⟩ (.bool true)).alloc (.cells #[.slice (some ⟨g, 0, none⟩) 2 2, .int .i64 (term + 1), .int .i64 ((j : Int) + 1), .bool false, .slice V xs.length vc, .slice D ds.length dc] 62)).alloc (.cells zW 62)) = W0 at hB hR hbb hG4 hO4 hT4 ⊢
  have HB := Lib.hid hB
  have HR := Lib.hid hR
  have HG4 := Lib.hid hG4
  have HO4 := Lib.hid hO4
  have HT4 := Lib.hid hT4
  have HBS4 : Hid (base ≤ W0.drew.heap.size) := Lib.hid (Nat.le_trans HBS.out hT4.size)
  clear hG1 hG2 hG3 hO3 hT3 hB hR hbb hG4 hO4 hT4 HG HWO
  refine start_ (n := 17) (S := fun w' => w'.cell? ⟨w.heap.size, 0, none⟩ = some (.slice (some ⟨g, 0, none⟩) 2 2) ∧ w'.cell? ⟨w.heap.size, 1, none⟩ = some (.int .i64 (term + 1)) ∧ w'.cell? ⟨w.heap.size, 2, none⟩ = some (.int .i64 ((j : Int) + 1)) ∧ w'.cell? ⟨w.heap.size, 3, none⟩ = some (.bool false) ∧ w'.cell? ⟨w.heap.size, 4, none⟩ = some (.slice V xs.length vc) ∧ w'.cell? ⟨w.heap.size, 5, none⟩ = some (.slice D ds.length dc) ∧ w'.cell? ⟨g, j * 5, none⟩ = some (.bool au) ∧ w'.cell? ⟨g, j * 5 + 1, none⟩ = some (.int .i64 (term + 1)) ∧ w'.cell? ⟨g, j * 5 + 2, none⟩ = some (.bool true) ∧ w'.cell? ⟨g, j * 5 + 3, none⟩ = some (.bool true) ∧ w'.cell? ⟨g, j * 5 + 4, none⟩ = some (.slice A xa.length ac)) (ds := [16]) #[F, F, F, F, F, F, F, F, F, F, F, F, F, F, F, F, F] (by kernel_rfl) rfl rfl ⟨(blkn (HB.out.bel bel_drew) 0 _ rfl), (blkn (HB.out.bel bel_drew) 1 _ rfl), (blkn (HB.out.bel bel_drew) 2 _ rfl), (blkn (HB.out.bel bel_drew) 3 _ rfl), (blkn (HB.out.bel bel_drew) 4 _ rfl), (blkn (HB.out.bel bel_drew) 5 _ rfl), (cells2_at (HG4.out.bel bel_drew) hjl).1, (cells2_at (HG4.out.bel bel_drew) hjl).2.1, (cells2_at (HG4.out.bel bel_drew) hjl).2.2.1, (cells2_at (HG4.out.bel bel_drew) hjl).2.2.2.1, (cells2_at (HG4.out.bel bel_drew) hjl).2.2.2.2⟩ (fun hHeld => ?_)
  refine py 1 (some 37) #[F, T, F, F, F, F, F, F, F, F, F, F, F, F, F, F, F] ?_
  refine py 3 (some 39) #[F, T, F, T, F, F, F, F, F, F, F, F, F, F, F, F, F] ?_
  refine py 4 (some 40) #[F, T, F, T, T, F, F, F, F, F, F, F, F, F, F, F, F] ?_
  refine py 7 (some 43) #[F, T, F, T, T, F, F, T, F, F, F, F, F, F, F, F, F] ?_
  refine py 9 (some 45) #[F, T, F, T, T, F, F, T, F, T, F, F, F, F, F, F, F] ?_
  refine py 10 (some 46) #[F, T, F, T, T, F, F, T, F, T, T, F, F, F, F, F, F] ?_
  refine ty 0 (some 36) #[T, T, F, T, T, F, F, T, F, T, T, F, F, F, F, F, F] (hS := hHeld) (hz := by rintro w' ⟨s0, s1, s2, s3, s4, s5, s6, s7, s8, s9, s10⟩; go_simp; with_reducible rfl) (h := ?_)
  refine ty 2 (some 38) #[T, T, T, T, T, F, F, T, F, T, T, F, F, F, F, F, F] (hS := hHeld) (hz := by rintro w' ⟨s0, s1, s2, s3, s4, s5, s6, s7, s8, s9, s10⟩; go_simp; with_reducible rfl) (h := ?_)
  refine py 5 (some 41) #[T, T, T, T, T, T, F, T, F, T, T, F, F, F, F, F, F] ?_
  refine ty 6 (some 42) #[T, T, T, T, T, T, T, T, F, T, T, F, F, F, F, F, F] (hS := hHeld) (hz := by rintro w' ⟨s0, s1, s2, s3, s4, s5, s6, s7, s8, s9, s10⟩; go_simp; with_reducible rfl) (h := ?_)
  refine ty 8 (some 44) #[T, T, T, T, T, T, T, T, T, T, T, F, F, F, F, F, F] (hS := hHeld) (hz := by rintro w' ⟨s0, s1, s2, s3, s4, s5, s6, s7, s8, s9, s10⟩; go_simp; with_reducible rfl) (h := ?_)
  refine py 11 (some 47) #[T, T, T, T, T, T, T, T, T, T, T, T, F, F, F, F, F] ?_
  refine py 12 (some 48) #[T, T, T, T, T, T, T, T, T, T, T, T, T, F, F, F, F] ?_
  refine ty 13 (some 49) #[T, T, T, T, T, T, T, T, T, T, T, T, T, T, F, F, F] (hS := hHeld) (hz := by rintro w' ⟨s0, s1, s2, s3, s4, s5, s6, s7, s8, s9, s10⟩; go_simp; with_reducible rfl) (h := ?_)
  refine py 14 (some 50) #[T, T, T, T, T, T, T, T, T, T, T, T, T, T, T, F, F] ?_
  refine ox 15 (some 51) #[T, T, T, T, T, T, T, T, T, T, T, T, T, T, T, T, F] fun K hK => ?_
  refine gox Tryz.func139 #[.agg #[.slice (some ⟨g, 0, none⟩) 2 2, .int .i64 (term + 1), .int .i64 ((j : Int) + 1), .bool false, .slice V xs.length vc, .slice D ds.length dc], .agg #[.bool au, .int .i64 (term + 1), .bool true, .bool true, .slice A xa.length ac], .int .i64 xa.length] ?_
  with_reducible refine (l22Done_c (n := ⟨au, term + 1, true, true, xa⟩) (HO4.out.oa.own.bel bel_drew).reads2 HCAP.out hl hd).mono ?_
  rintro e w5 ⟨E, f, tk, rfl, hb5, hk, hdd⟩
  have hb6 : Bel W0 w5 := Bel.tr (b := W0.drew) bel_drew hb5
  have HB5 := Lib.hid (HB.out.bel hb6)
  have HG5 := Lib.hid (HG4.out.bel hb6)
  have HR5 := Lib.hid (HR.out.bel hb6)
  have HT5 := Lib.hid (HT4.out.tr (Turn.of_bel hb6))
  have HO5 : Hid (WO w5 base ⟨⟨au, term + 1, true, true, xa⟩, A, ac⟩ y (.slice V xs.length vc) xs (.slice E tk.length f) tk) := Lib.hid (hdd.elim (fun e => by obtain ⟨rfl, rfl, rfl⟩ := e; exact HO4.out.bel hb6) (fun ho => (HO4.out.bel bel_drew).doneN hb5 (OwnO.tail ho) HBS4.out hk))
  clear hb5 hb6 hdd hk
  obtain ⟨r0, r1, r2, r3, r4, r5, rf0, rf1, rf2, rf3, rf4, rf5, ry⟩ := k6f HR5.out
  refine ⟨_, rfl, ?_⟩
  refine hK.out _ _ ⟨(blkn HB5.out 0 _ rfl), (blkn HB5.out 1 _ rfl), (blkn HB5.out 2 _ rfl), (blkn HB5.out 3 _ rfl), (blkn HB5.out 4 _ rfl), (blkn HB5.out 5 _ rfl), (cells2_at HG5.out hjl).1, (cells2_at HG5.out hjl).2.1, (cells2_at HG5.out hjl).2.2.1, (cells2_at HG5.out hjl).2.2.2.1, (cells2_at HG5.out hjl).2.2.2.2⟩ (fun hHeld => ?_)
  clear hK K
  refine nox 51 (h := ?_)
  refine lx 16 none #[T, T, T, T, T, T, T, T, T, T, T, T, T, T, T, T, T] fun K hK => ?_
  refine sx ?_
  refine hK.out _ _ ?_
  clear hK K
  refine done_ (by kernel_rfl) ?_
  go_wp2
  have hR6 := HR5.out.sets [.slice (some ⟨g, 0, none⟩) 2 2, .int .i64 (term + 1), .int .i64 ((j : Int) + 1), .bool false, .slice V xs.length vc, .slice E tk.length f] rfl
  obtain ⟨a9, b9, hwi⟩ := wi_of (Blk.apartS (show w.heap.size + 1 ≠ g by omega) [.slice (some ⟨g, 0, none⟩) 2 2, .int .i64 (term + 1), .int .i64 ((j : Int) + 1), .bool false, .slice V xs.length vc, .slice E tk.length f] 0 HG5.out) HGE.out (HO5.out.sets HR5.out (by decide) (by decide) [.slice (some ⟨g, 0, none⟩) 2 2, .int .i64 (term + 1), .int .i64 ((j : Int) + 1), .bool false, .slice V xs.length vc, .slice E tk.length f] 0) (lead := (j : Int) + 1) (term := term + 1) (by omega) (by have := HTM.out; omega) hjl
  refine bodyPost_ret (results_cell_row rfl _ _ (w.heap.size + 1) 62 #[.slice (some ⟨g, 0, none⟩) 2 2, .int .i64 (term + 1), .int .i64 ((j : Int) + 1), .bool false, .slice V xs.length vc, .slice E tk.length f] (0, 0) _ rfl hR6 Tryz.underlying62 rfl (by kernel_rfl)) rfl ?_
  exact ⟨g, a9, b9, _, _, false, V, xs, vc, E, tk, f, rfl, hwi, HT5.out.new (Nat.le_succ _) [.slice (some ⟨g, 0, none⟩) 2 2, .int .i64 (term + 1), .int .i64 ((j : Int) + 1), .bool false, .slice V xs.length vc, .slice E tk.length f] 0⟩
 ·have h99 : 99 ≤ term := by omega
  go_enter Tryz.func124, Tryz.ntmps124
  go_wp2
  have hR : Blk ((w.alloc (.cells (wC g term lead both V xs vc D ds dc) 62)).alloc (.cells (wC g term lead both V xs vc D ds dc) 62)) (w.heap.size + 1) (wC g term lead both V xs vc D ds dc) 62 := Blk.nw2 w _ _ _
  have hW : Bel w ((w.alloc (.cells (wC g term lead both V xs vc D ds dc) 62)).alloc (.cells (wC g term lead both V xs vc D ds dc) 62)) := bel_alloc (bel_alloc (Below.refl _ _) _) _
  obtain ⟨a, b, hI⟩ := h.toI
  refine bodyPost_ret (results_cell_row rfl _ _ (w.heap.size + 1) 62 (wC g term lead both V xs vc D ds dc) (0, 0) _ rfl hR Tryz.underlying62 rfl (by kernel_rfl)) rfl ?_
  exact ⟨g, a, b, term, lead, both, V, xs, vc, D, ds, dc, rfl, hI.bel hW, Turn.of_bel hW⟩
end
def kL : Kd LV where
 sz := 10
 E := []
 K _ x cs := cs = encM x
 M _ _ _ x cs := cs = encM x
 K_len := by rintro w x cs rfl; rfl
 K_one := by intro w x cs h u hu; rw [h] at hu; simp [encM] at hu; rcases hu with rfl | rfl | rfl | rfl | rfl | rfl | rfl | rfl | rfl | rfl <;> rfl
 K_below := fun _ h => h
 K_of_M := fun h => h
 M_mono := fun _ h => h
 M_bound := fun h => h
 M_move := fun _ h => h
 M_lower := fun _ h => h
theorem OwnM.rows {w : World} {base : Nat} {V : Option Addr} {vc : Nat} {xs : List LV} (h : OwnM w base (.slice V xs.length vc) xs) : xs.length ≤ vc ∧ kL.C w V xs.length xs := by
 obtain ⟨A, c, e, hr⟩ := own_reads_row h (reps_flat (R := kL.K w) encM_len xs fun x _ => rfl) rfl
 obtain ⟨A', c', e', hc⟩ := own_cap h
 have e1 := slice_eq e
 have e2 := slice_eq e'
 obtain ⟨rfl, -, rfl⟩ := e1
 obtain ⟨rfl, -, rfl⟩ := e2
 exact ⟨hc, hr⟩
theorem ownM_of_R {w : World} {base : Nat} {ok : Nat → Prop} {v : Value} {xs : List LV} (h : kL.R 29 w base ok v xs) : OwnM w base v xs := by
 obtain ⟨_, inner, ho, hr⟩ := h
 have := reps_eq encM_len hr (fun x c hc => hc)
 rw [this] at ho
 exact ho
theorem R_ownM {w : World} {base : Nat} {v : Value} {xs : List LV} (h : OwnM w base v xs) : kL.R 29 w base (fun _ => True) v xs :=
 ⟨fun _ _ => trivial, _, h, reps_flat encM_len xs fun x _ => rfl⟩
theorem ownM_empty (w : World) (base : Nat) (hb : base ≤ w.heap.size) : OwnM (w.alloc (.cells #[] 29)) base (.slice (some ⟨w.heap.size, 0, none⟩) 0 0) [] := own_empty w base _ _ hb
theorem at_letter {w : World} {A : Option Addr} {n : Nat} {xs : List LV} (h : kL.C w A n xs) {i : Nat} {x : LV} (hx : xs[i]? = some x) : ∃ ad, A = some ad ∧ w.cell? (ad.add (i * 10)) = some (.int .i64 x.m.kind) ∧ w.cell? ⟨(ad.add (i * 10)).block, (ad.add (i * 10)).off + 1, none⟩ = some (.int .i64 x.m.whom) ∧ w.cell? ⟨(ad.add (i * 10)).block, (ad.add (i * 10)).off + 2, none⟩ = some (.int .i64 x.m.term) ∧ w.cell? ⟨(ad.add (i * 10)).block, (ad.add (i * 10)).off + 3, none⟩ = some (.int .i64 x.m.n) ∧ w.cell? ⟨(ad.add (i * 10)).block, (ad.add (i * 10)).off + 4, none⟩ = some (.int .i64 x.m.op.kind) ∧ w.cell? ⟨(ad.add (i * 10)).block, (ad.add (i * 10)).off + 5, none⟩ = some (.string x.m.op.name) ∧ w.cell? ⟨(ad.add (i * 10)).block, (ad.add (i * 10)).off + 6, none⟩ = some (.string x.m.op.dest) ∧ w.cell? ⟨(ad.add (i * 10)).block, (ad.add (i * 10)).off + 7, none⟩ = some (.int .i64 x.m.op.n) ∧ w.cell? ⟨(ad.add (i * 10)).block, (ad.add (i * 10)).off + 8, none⟩ = some (.string x.m.op.text) ∧ w.cell? ⟨(ad.add (i * 10)).block, (ad.add (i * 10)).off + 9, none⟩ = some (.slice x.A x.m.ops.length x.c) := by
 have hl := h.1 ▸ ltQ hx
 obtain ⟨ad, c, e, _, hK, hc0⟩ := Kd.C_get h (⟨noM, none, 0⟩ : LV) i (by omega) (by omega)
 have hc : ∀ j u, c[j]? = some u → w.cell? (ad.add (i * 10 + j)) = some u := hc0
 have he : xs.getD (i : Int).toNat (⟨noM, none, 0⟩ : LV) = x := by rw [List.getD_eq_getElem?_getD, Int.toNat_natCast, hx]; rfl
 rw [he] at hK
 obtain rfl : c = encM x := hK
 exact ⟨ad, e, hc 0 _ rfl, by rw [← add_field _ _ 1 (by omega)]; exact hc 1 _ rfl, by rw [← add_field _ _ 2 (by omega)]; exact hc 2 _ rfl, by rw [← add_field _ _ 3 (by omega)]; exact hc 3 _ rfl, by rw [← add_field _ _ 4 (by omega)]; exact hc 4 _ rfl, by rw [← add_field _ _ 5 (by omega)]; exact hc 5 _ rfl, by rw [← add_field _ _ 6 (by omega)]; exact hc 6 _ rfl, by rw [← add_field _ _ 7 (by omega)]; exact hc 7 _ rfl, by rw [← add_field _ _ 8 (by omega)]; exact hc 8 _ rfl, by rw [← add_field _ _ 9 (by omega)]; exact hc 9 _ rfl⟩
theorem WI.sets {w : World} {base g k : Nat} {a b : NVl} {term lead : Int} {vn vd : Value} {xs : List LV} {ds : List Op} {cs : Array Value} {t : TypeId} (h : WI w base g a b term lead vn xs vd ds) (hB : Blk w k cs t) (h1 : 27 ≠ t) (h2 : 29 ≠ t) (h3 : 25 ≠ t) (vs : List Value) (j : Nat) : WI (wsets w k j vs) base g a b term lead vn xs vd ds :=
 ⟨Blk.apartS (fun e => h3 (blk_one h.blk (e ▸ hB))) vs j h.blk, h.ge, h.o.sets hB h1 h2 vs j, h.lead, h.term⟩
section
variable {w : World} {V D : Option Addr} {base g vc dc : Nat} {a b : NVl} {both : Bool} {term lead ek ea : Int} {ds : List Op} {xs : List LV} {eo : Op}
theorem l22Net_c (h : WI w base g a b term lead (.slice V xs.length vc) xs (.slice D ds.length dc) ds) (hbase : base ≤ w.heap.size) :
  Calls Tryz.prog 123 #[.agg #[.slice (some ⟨g, 0, none⟩) 2 2, .int .i64 term, .int .i64 lead, .bool both, .slice V xs.length vc, .slice D ds.length dc], .agg #[.int .i64 ek, .int .i64 ea, .int .i64 eo.kind, .string eo.name, .string eo.dest, .int .i64 eo.n, .string eo.text]] w (WRes base w) := by
 have HWI := Lib.hid h
 have HBS := Lib.hid hbase
 have hxl := h.o.many
 have hwl : wrap64 ((xs.length : Int) - 1) = xs.length - 1 := by unfold wrap64; omega
 clear h hbase
 go_enter Tryz.func123, Tryz.ntmps123
 go_wp2_with fail
 obtain ⟨hW, hB, hE, hR⟩ := allocs3 w (wC g term lead both V xs vc D ds dc) #[.int .i64 ek, .int .i64 ea, .int .i64 eo.kind, .string eo.name, .string eo.dest, .int .i64 eo.n, .string eo.text] zW 62 135 62
 generalize (((w.alloc (.cells (wC g term lead both V xs vc D ds dc) 62)).alloc (.cells #[.int .i64 ek, .int .i64 ea, .int .i64 eo.kind, .string eo.name, .string eo.dest, .int .i64 eo.n, .string eo.text] 135)).alloc (.cells zW 62)) = W0 at hW hB hE hR ⊢
 have HB := Lib.hid hB
 have HE := Lib.hid hE
 have HR := Lib.hid hR
 have HW := Lib.hid hW
 have hrl := hR.lt
 have hl := l6In_c ea 0 ((xs.length : Int) - 1) W0
 clear hW hB hE hR
 cases hi : inR ea 0 ((xs.length : Int) - 1) with
 | false =>
  rw [hi] at hl
  refine hl.mono ?_
  rintro e w1 ⟨rfl, rfl⟩
  clear hl
  obtain ⟨hb_0, hb_1, hb_2, hb_3, hb_4, hb_5, hb_y⟩ := k6c HB.out
  obtain ⟨hr_0, hr_1, hr_2, hr_3, hr_4, hr_5, hr_f0, hr_f1, hr_f2, hr_f3, hr_f4, hr_f5, hr_y⟩ := k6f HR.out
  go_wp2
  clear hb_0 hb_1 hb_2 hb_3 hb_4 hb_5 hb_y
  clear hr_0 hr_1 hr_2 hr_3 hr_4 hr_5 hr_f0 hr_f1 hr_f2 hr_f3 hr_f4 hr_f5 hr_y
  have hR3 := HR.out.sets [.slice (some ⟨g, 0, none⟩) 2 2, .int .i64 term, .int .i64 lead, .bool both, .slice V xs.length vc, .slice D ds.length dc] rfl
  refine bodyPost_ret (results_cell_row rfl _ _ (w.heap.size + 1 + 1) 62 (wC g term lead both V xs vc D ds dc) (0, 0) _ rfl hR3 Tryz.underlying62 rfl (by kernel_rfl)) rfl ?_
  exact ⟨_, _, _, _, _, _, _, _, _, _, _, _, rfl, WI.sets (HWI.out.bel HW.out) HR.out (by decide) (by decide) (by decide) [.slice (some ⟨g, 0, none⟩) 2 2, .int .i64 term, .int .i64 lead, .bool both, .slice V xs.length vc, .slice D ds.length dc] 0, Turn.new (Turn.of_bel HW.out) (by omega) [.slice (some ⟨g, 0, none⟩) 2 2, .int .i64 term, .int .i64 lead, .bool both, .slice V xs.length vc, .slice D ds.length dc] 0⟩
 | true =>
  have hi2 := inR_iff.1 hi
  rw [hi] at hl
  obtain ⟨i, rfl⟩ : ∃ i : Nat, ea = (i : Int) := ⟨ea.toNat, by omega⟩
  have hil : i < xs.length := by omega
  obtain ⟨x, hx⟩ : ∃ x, xs[i]? = some x := ⟨_, List.getElem?_eq_getElem hil⟩
  have hmem : x ∈ xs := List.mem_of_getElem? hx
  obtain ⟨hcap, hC⟩ := HWI.out.o.nets.rows
  obtain ⟨ad, rfl, hc⟩ := at_letter (Kd.C_below hC HW.out) hx
  have HLX := Lib.hid (And.intro (HWI.out.o.letter x hmem) (And.intro (HWI.out.o.la x hmem) (And.intro (HWI.out.o.lb x hmem) (HWI.out.o.ld x hmem))))
  have HC := Lib.hid hC
  have hicap : i ≤ vc := by omega
  have hwi : wrap64 ((i : Int) + 1) = ((i + 1 : Nat) : Int) := by unfold wrap64; omega
  obtain ⟨⟨kind, wh, mt, mn, op, mops⟩, M, mc⟩ := x
  obtain ⟨c0, c1, c2, c3, c4, c5, c6, c7, c8, c9⟩ := hc
  dsimp only at c0 c1 c2 c3 c4 c5 c6 c7 c8 c9
  clear hi hi2 hmem hC
  refine hl.mono ?_
  rintro e w1 ⟨rfl, rfl⟩
  clear hl
  obtain ⟨hb_0, hb_1, hb_2, hb_3, hb_4, hb_5, hb_y⟩ := k6c HB.out
  obtain ⟨he_0, he_1, he_2, he_3, he_4, he_5, he_6, he_y⟩ := k7c HE.out
  by_cases k4 : ek = 4
  ·subst k4
   go_wp2_with fail
   clear hb_0 hb_1 hb_2 hb_3 hb_4 hb_5 hb_y
   clear he_0 he_1 he_2 he_3 he_4 he_5 he_6 he_y
   clear c0 c1 c2 c3 c4 c5 c6 c7 c8 c9
   have hb1 : Bel W0 (W0.alloc (.cells #[.int .i64 kind, .int .i64 wh, .int .i64 mt, .int .i64 mn, .int .i64 op.kind, .string op.name, .string op.dest, .int .i64 op.n, .string op.text, .slice M mops.length mc] 29)) := bel_alloc (Below.refl _ _) _
   have hM1 : Blk (W0.alloc (.cells #[.int .i64 kind, .int .i64 wh, .int .i64 mt, .int .i64 mn, .int .i64 op.kind, .string op.name, .string op.dest, .int .i64 op.n, .string op.text, .slice M mops.length mc] 29)) W0.heap.size #[.int .i64 kind, .int .i64 wh, .int .i64 mt, .int .i64 mn, .int .i64 op.kind, .string op.name, .string op.dest, .int .i64 op.n, .string op.text, .slice M mops.length mc] 29 := Blk.new _ _ _
   obtain ⟨nb, hnb⟩ : ∃ nb, W0.heap.size = nb := ⟨_, rfl⟩
   rw [hnb] at hM1
   generalize (W0.alloc (.cells #[.int .i64 kind, .int .i64 wh, .int .i64 mt, .int .i64 mn, .int .i64 op.kind, .string op.name, .string op.dest, .int .i64 op.n, .string op.text, .slice M mops.length mc] 29)) = W1 at hb1 hM1 ⊢
   try rw [hnb]
   have hn9 : w.heap.size + 1 + 1 < nb := by omega
   have HB1 := Lib.hid (HB.out.bel hb1)
   have HE1 := Lib.hid (HE.out.bel hb1)
   have HR1 := Lib.hid (HR.out.bel hb1)
   have HW1 := Lib.hid (HW.out.tr hb1)
   have HM1 := Lib.hid hM1
   clear hb1 hM1 hnb HB HE HR HW
   refine (l22Send_c (x := ⟨⟨kind, wh, mt, mn, op, mops⟩, M, mc⟩) (HWI.out.o.nets.bel HW1.out) (Nat.le_trans HBS.out (Below.size HW1.out)) HWI.out.o.many).mono ?_
   rintro e w8 ⟨E8, f8, ys, rfl, hy, hn8, hg8⟩
   have hO1 := HWI.out.o.bel HW1.out
   have hO8 := hO1.send (HLX.out.1.bel HW1.out) HLX.out.2.1 HLX.out.2.2.1 HLX.out.2.2.2 hy hn8 hg8
   have HR8 := Lib.hid (HR1.out.grown hg8 (own_neM hO1.nets HR1.out (by decide)))
   have hG1 := HWI.out.blk.bel HW1.out
   have HI8 := Lib.hid (WI.mk (hG1.grown hg8 (own_neM hO1.nets hG1 (by decide))) HWI.out.ge hO8 HWI.out.lead HWI.out.term)
   have HT8 : Hid (Turn base w w8) := Lib.hid ((Turn.of_bel HW1.out).tr (Turn.grown hg8 (fun k hk => by obtain ⟨h1, h3, cs, h4⟩ := hO1.nets.block k hk; exact ⟨h1, cs, _, h4, .inr (.inr rfl)⟩)))
   clear hy hn8 hg8 hO1 hO8 hG1
   obtain ⟨hr8_0, hr8_1, hr8_2, hr8_3, hr8_4, hr8_5, hr8_f0, hr8_f1, hr8_f2, hr8_f3, hr8_f4, hr8_f5, hr8_y⟩ := k6f HR8.out
   go_wp2
   clear hr8_0 hr8_1 hr8_2 hr8_3 hr8_4 hr8_5 hr8_f0 hr8_f1 hr8_f2 hr8_f3 hr8_f4 hr8_f5 hr8_y
   have hR3 := HR8.out.sets [.slice (some ⟨g, 0, none⟩) 2 2, .int .i64 term, .int .i64 lead, .bool both, .slice E8 ys.length f8, .slice D ds.length dc] rfl
   refine bodyPost_ret (results_cell_row rfl _ _ (w.heap.size + 1 + 1) 62 (wC g term lead both E8 ys f8 D ds dc) (0, 0) _ rfl hR3 Tryz.underlying62 rfl (by kernel_rfl)) rfl ?_
   exact ⟨_, _, _, _, _, _, _, _, _, _, _, _, rfl, WI.sets (HI8.out) HR8.out (by decide) (by decide) (by decide) [.slice (some ⟨g, 0, none⟩) 2 2, .int .i64 term, .int .i64 lead, .bool both, .slice E8 ys.length f8, .slice D ds.length dc] 0, Turn.new (HT8.out) (by omega) [.slice (some ⟨g, 0, none⟩) 2 2, .int .i64 term, .int .i64 lead, .bool both, .slice E8 ys.length f8, .slice D ds.length dc] 0⟩
  ·have d4 : (ek == 4) = false := by simp [k4]
   go_wp2
   clear hb_0 hb_1 hb_2 hb_3 hb_4 hb_5 hb_y
   clear he_0 he_1 he_2 he_3 he_4 he_5 he_6 he_y
   clear c0 c1 c2 c3 c4 c5 c6 c7 c8 c9
   have hb1 : Bel W0 (W0.alloc (.cells #[.int .i64 kind, .int .i64 wh, .int .i64 mt, .int .i64 mn, .int .i64 op.kind, .string op.name, .string op.dest, .int .i64 op.n, .string op.text, .slice M mops.length mc] 29)) := bel_alloc (Below.refl _ _) _
   have hM1 : Blk (W0.alloc (.cells #[.int .i64 kind, .int .i64 wh, .int .i64 mt, .int .i64 mn, .int .i64 op.kind, .string op.name, .string op.dest, .int .i64 op.n, .string op.text, .slice M mops.length mc] 29)) W0.heap.size #[.int .i64 kind, .int .i64 wh, .int .i64 mt, .int .i64 mn, .int .i64 op.kind, .string op.name, .string op.dest, .int .i64 op.n, .string op.text, .slice M mops.length mc] 29 := Blk.new _ _ _
   obtain ⟨nb, hnb⟩ : ∃ nb, W0.heap.size = nb := ⟨_, rfl⟩
   rw [hnb] at hM1
   generalize (W0.alloc (.cells #[.int .i64 kind, .int .i64 wh, .int .i64 mt, .int .i64 mn, .int .i64 op.kind, .string op.name, .string op.dest, .int .i64 op.n, .string op.text, .slice M mops.length mc] 29)) = W1 at hb1 hM1 ⊢
   try rw [hnb]
   have hn9 : w.heap.size + 1 + 1 < nb := by omega
   have HB1 := Lib.hid (HB.out.bel hb1)
   have HE1 := Lib.hid (HE.out.bel hb1)
   have HR1 := Lib.hid (HR.out.bel hb1)
   have HW1 := Lib.hid (HW.out.tr hb1)
   have HM1 := Lib.hid hM1
   clear hb1 hM1 hnb HB HE HR HW
   obtain ⟨xt, hxt⟩ : ∃ t, xs.take i = t := ⟨_, rfl⟩
   obtain ⟨xd, hxd⟩ : ∃ t, xs.drop (i + 1) = t := ⟨_, rfl⟩
   have hlt : xt.length = i := by rw [← hxt, List.length_take]; omega
   have hld : xd.length = xs.length - (i + 1) := by rw [← hxd, List.length_drop]
   have hCT := Lib.hid (fun (W : World) (hb : Bel w W) => (hxt ▸ C_take (Kd.C_below HC.out hb) i (Nat.le_of_lt hil) : kL.C W (some ad) i xt))
   have hCD := Lib.hid (fun (W : World) (hb : Bel w W) => (by
    have h2 := Kd.C_drop (c := vc) (Kd.C_below HC.out hb) (m := i + 1) hil hcap
    rw [hxd, hld] at h2
    exact h2 : kL.C W (if vc = i + 1 then some ad else some (ad.add ((i + 1) * 10))) (xs.length - (i + 1)) xd))
   have HLT := Lib.hid hlt
   have HIF : Hid (0 ≤ (i : Int) + 1 ∧ (i : Int) + 1 ≤ (xs.length : Int)) := Lib.hid ⟨by omega, by omega⟩
   have HLD := Lib.hid hld
   have HXM : Hid (∀ y ∈ xt ++ xd, y ∈ xs) := Lib.hid (fun y hy => by
    rcases List.mem_append.1 hy with hy | hy
    ·rw [← hxt] at hy; exact List.mem_of_mem_take hy
    ·rw [← hxd] at hy; exact List.mem_of_mem_drop hy)
   have HWD : Hid (Bel w W1.drew) := Lib.hid (HW1.out.tr bel_drew)
   clear hlt hld hxt hxd
   refine start_ (n := 16) (S := fun w' => w'.cell? ⟨w.heap.size, 4, none⟩ = some (.slice (some ad) xs.length vc) ∧ w'.cell? ⟨w.heap.size + 1, 1, none⟩ = some (.int .i64 (i : Int))) (ds := [15]) #[F, F, F, F, F, F, F, F, F, F, F, F, F, F, F, F] (by kernel_rfl) rfl rfl ⟨(blkn (HB1.out.bel bel_drew) 4 _ rfl), (blkn (HE1.out.bel bel_drew) 1 _ rfl)⟩ (fun hHeld => ?_)
   refine py 1 (some 28) #[F, T, F, F, F, F, F, F, F, F, F, F, F, F, F, F] ?_
   refine py 3 (some 30) #[F, T, F, T, F, F, F, F, F, F, F, F, F, F, F, F] ?_
   refine py 7 (some 34) #[F, T, F, T, F, F, F, T, F, F, F, F, F, F, F, F] ?_
   refine py 9 (some 36) #[F, T, F, T, F, F, F, T, F, T, F, F, F, F, F, F] ?_
   refine ty 2 (some 29) #[F, T, T, T, F, F, F, T, F, T, F, F, F, F, F, F] (hS := hHeld) (hz := by rintro w' ⟨s0, s1⟩; go_simp; with_reducible rfl) (h := ?_)
   refine ty 4 (some 31) #[F, T, T, T, T, F, F, T, F, T, F, F, F, F, F, F] (hS := hHeld) (hz := by rintro w' ⟨s0, s1⟩; go_simp; with_reducible rfl) (h := ?_)
   refine py 5 (some 32) #[F, T, T, T, T, T, F, T, F, T, F, F, F, F, F, F] ?_
   refine ty 8 (some 35) #[F, T, T, T, T, T, F, T, T, T, F, F, F, F, F, F] (hS := hHeld) (hz := by rintro w' ⟨s0, s1⟩; go_simp; with_reducible rfl) (h := ?_)
   refine ty 10 (some 37) #[F, T, T, T, T, T, F, T, T, T, T, F, F, F, F, F] (hS := hHeld) (hz := by rintro w' ⟨s0, s1⟩; go_simp; with_reducible rfl) (h := ?_)
   refine py 11 (some 38) #[F, T, T, T, T, T, F, T, T, T, T, T, F, F, F, F] ?_
   refine pure_ (i := 12) (N := some 39) (v := ?_) (a' := ?_) #[F, T, T, T, T, T, F, T, T, T, T, T, T, F, F, F] rfl rfl (by kernel_rfl) (fun _ _ _ h => h) (Or.inl ⟨by rfl, ?_⟩) ?_ ?_
   rotate_left
   ·intro w'
    go_simp
    exact if_pos HIF.out
   rotate_left
   ·simp only [Act.put, lA, lB, lC, i64_w, i32_w]
    rfl
   refine ox 0 (some 27) #[T, T, T, T, T, T, F, T, T, T, T, T, T, F, F, F] fun K hK => ?_
   refine vx ?_
   have hbE : Bel W1.drew (W1.alloc (.cells #[] 29)).drew := bel_alloc (Below.refl _ _) _
   have HBE := Lib.hid hbE
   clear hbE
   refine hK.out _ _ ⟨(blkn ((HB1.out.bel bel_drew).bel HBE.out) 4 _ rfl), (blkn ((HE1.out.bel bel_drew).bel HBE.out) 1 _ rfl)⟩ (fun hHeld => ?_)
   clear hK K
   refine nox 27 (h := ?_)
   refine ox 6 (some 33) #[T, T, T, T, T, T, T, T, T, T, T, T, T, F, F, F] fun K hK => ?_
   refine Kd.R_append_rows_step kL (w0 := W1.drew) W1.drew.heap.size (by rfl) (.tmp 27) (.tmp 32) 60 29 (.agg #[.int .i64 0, .int .i64 0, .int .i64 0, .int .i64 0, .int .i64 0, .string ⟨#[]⟩, .string ⟨#[]⟩, .int .i64 0, .string ⟨#[]⟩, .slice none 0 0]) 120 rfl Tryz.underlying60 info_msgR rfl (by decide) (by decide) _ [] xt _ _ _ (fun _ => True) (fun _ => False) rfl rfl (R_ownM (show OwnM (W1.alloc (.cells #[] 29)).drew W1.drew.heap.size _ [] from ownM_empty W1.drew W1.drew.heap.size (Nat.le_refl _))) (hCT.out _ (HWD.out.tr HBE.out)) (fun x cs h => h) (fun _ h => h.elim) (fun _ _ => trivial) ?a2 ?a3 ?a4 ?_
   case a2 => exact HBE.out
   case a3 => exact Below.size HBE.out
   case a4 => simp; omega
   intro v1 w4 ho hb hg hat
   have HB4 : Hid (Bel W1.drew w4) := Lib.hid hb
   have HO4 : Hid (OwnM w4 W1.drew.heap.size v1 xt) := Lib.hid (ownM_of_R ho)
   clear ho hb hg hat
   refine hK.out _ _ ⟨(blkn ((HB1.out.bel bel_drew).bel HB4.out) 4 _ rfl), (blkn ((HE1.out.bel bel_drew).bel HB4.out) 1 _ rfl)⟩ (fun hHeld => ?_)
   clear hK K
   refine nox 33 (h := ?_)
   refine ox 13 (some 40) #[T, T, T, T, T, T, T, T, T, T, T, T, T, T, F, F] fun K hK => ?_
   refine Kd.R_append_rows_step kL (w0 := W1.drew) W1.drew.heap.size (by rfl) (.tmp 33) (.tmp 39) 60 29 (.agg #[.int .i64 0, .int .i64 0, .int .i64 0, .int .i64 0, .int .i64 0, .string ⟨#[]⟩, .string ⟨#[]⟩, .int .i64 0, .string ⟨#[]⟩, .slice none 0 0]) 120 rfl Tryz.underlying60 info_msgR rfl (by decide) (by decide) _ xt xd _ _ _ (fun _ => True) (fun _ => False) rfl rfl (R_ownM HO4.out) (hCD.out _ (HWD.out.tr HB4.out)) (fun x cs h => h) (fun _ h => h.elim) (fun _ _ => trivial) ?a2 ?a3 ?a4 ?_
   case a2 => exact HB4.out
   case a3 => exact Below.size HB4.out
   case a4 => have := HLT.out; omega
   intro v2 w5 ho hb hg hat
   have HB5 : Hid (Bel W1.drew w5) := Lib.hid hb
   have hO5 : OwnM w5 W1.drew.heap.size v2 (xt ++ xd) := ownM_of_R ho
   obtain ⟨ys, hys⟩ : ∃ y, xt ++ xd = y := ⟨_, rfl⟩
   rw [hys] at hO5
   obtain ⟨E5, f5, rfl⟩ := hO5.reads
   have HO5 := Lib.hid hO5
   have HYS := Lib.hid hys
   have HX5 := Lib.hid ((HB1.out.bel bel_drew).bel HB5.out)
   have b4 := blkn HX5.out 4 _ rfl
   have bf4 := HX5.out.free 4
   have by_ := HX5.out.lt
   clear ho hb hg hat hO5 hys HB4 HO4 HBE
   refine hK.out _ _ ⟨(blkn ((HB1.out.bel bel_drew).bel HB5.out) 4 _ rfl), (blkn ((HE1.out.bel bel_drew).bel HB5.out) 1 _ rfl)⟩ (fun hHeld => ?_)
   clear hK K
   refine nox 40 (h := ?_)
   refine py 14 (some 41) #[T, T, T, T, T, T, T, T, T, T, T, T, T, T, T, F] ?_
   refine lx 15 none #[T, T, T, T, T, T, T, T, T, T, T, T, T, T, T, T] fun K hK => ?_
   refine sx ?_
   refine hK.out _ _ ?_
   clear hK K
   refine done_ (by kernel_rfl) ?_
   generalize (if vc = i + 1 then some ad else some (ad.add ((i + 1) * 10))) = ax
   have hB5 := HB5.out
   have hbw : Bel w w5 := HWD.out.tr hB5
   have hO5 := HWI.out.o.netsN hbw (own_lower HO5.out (Nat.le_trans HBS.out (Below.size HWD.out))) (fun y hy => HXM.out y (HYS.out ▸ hy)) (by have h1 := HLT.out; have h2 := HLD.out; rw [← HYS.out, List.length_append]; omega)
   have hB6 := HX5.out.set 4 (.slice E5 ys.length f5) (cs' := (wC g term lead both E5 ys f5 D ds dc)) rfl
   have hR6 := ((HR1.out.bel bel_drew).bel hB5).apart (show w.heap.size ≠ w.heap.size + 1 + 1 by omega) 4 (.slice E5 ys.length f5)
   have hE6 := ((HE1.out.bel bel_drew).bel hB5).apart (show w.heap.size ≠ w.heap.size + 1 by omega) 4 (.slice E5 ys.length f5)
   have hM6 := ((HM1.out.bel bel_drew).bel hB5).apart (show w.heap.size ≠ nb by omega) 4 (.slice E5 ys.length f5)
   have hI6 := (WI.mk (HWI.out.blk.bel hbw) HWI.out.ge hO5 HWI.out.lead HWI.out.term).sets HX5.out (by decide) (by decide) (by decide) [.slice E5 ys.length f5] 4
   have hT6 : Turn base w (w5.setCell ⟨w.heap.size, 4, none⟩ (.slice E5 ys.length f5)) := (Turn.of_bel hbw).new (Nat.le_refl _) [.slice E5 ys.length f5] 4
   have hL6 : LOk (w5.setCell ⟨w.heap.size, 4, none⟩ (.slice E5 ys.length f5)) base ⟨⟨kind, wh, mt, mn, op, mops⟩, M, mc⟩ := (HLX.out.1.bel hbw).kept (grown_setCell _ _ _ _) (fun k hk e => by have := (HLX.out.1.own.base k hk).2.1; cases e; omega)
   clear b4 bf4 by_ HX5 hB5 hbw hO5 HB5 HO5 HB1 HR1 HE1 HM1 HWD
   obtain ⟨W6, hW6⟩ : ∃ W, w5.setCell ⟨w.heap.size, 4, none⟩ (.slice E5 ys.length f5) = W := ⟨_, rfl⟩
   rw [hW6] at hB6 hR6 hE6 hM6 hT6 hL6 ⊢
   have HB6 := Lib.hid hB6
   have HR6 := Lib.hid hR6
   have HE6 := Lib.hid hE6
   have HM6 := Lib.hid hM6
   have HI6 : Hid (WI W6 base g a b term lead (.slice E5 ys.length f5) ys (.slice D ds.length dc) ds) := Lib.hid (hW6 ▸ hI6)
   have HT6 := Lib.hid hT6
   have HL6 := Lib.hid hL6
   clear hB6 hR6 hE6 hM6 hI6 hT6 hL6 hW6
   obtain ⟨hb6_0, hb6_1, hb6_2, hb6_3, hb6_4, hb6_5, hb6_y⟩ := k6c HB6.out
   obtain ⟨he6_0, he6_1, he6_2, he6_3, he6_4, he6_5, he6_6, he6_y⟩ := k7c HE6.out
   by_cases k2 : ek = 2
   ·subst k2
    obtain ⟨hm6_0, hm6_1, hm6_2, hm6_3, hm6_4, hm6_5, hm6_6, hm6_7, hm6_8, hm6_9, hm6_y⟩ := k10c HM6.out
    go_wp2_with fail
    clear hb6_0 hb6_1 hb6_2 hb6_3 hb6_4 hb6_5 hb6_y
    clear he6_0 he6_1 he6_2 he6_3 he6_4 he6_5 he6_6 he6_y
    clear hm6_0 hm6_1 hm6_2 hm6_3 hm6_4 hm6_5 hm6_6 hm6_7 hm6_8 hm6_9 hm6_y
    have hbr : Calls Tryz.prog 140 #[.agg #[.slice (some ⟨g, 0, none⟩) 2 2, .int .i64 term, .int .i64 lead, .bool both, .slice E5 ys.length f5, .slice D ds.length dc], .agg #[.int .i64 kind, .int .i64 wh, .int .i64 mt, .int .i64 mn, .int .i64 op.kind, .string op.name, .string op.dest, .int .i64 op.n, .string op.text, .slice M mops.length mc]] W6 (WRes base W6) := by
     obtain ⟨j, hj, rfl⟩ := idxJ HL6.out.whom
     obtain ⟨⟨⟨au, ta, al, aa, xa⟩, A, ac⟩, y, hJ⟩ := HI6.out.toJ hj
     exact l22Bring_j hJ (Nat.le_trans HBS.out HT6.out.size) HL6.out
    refine hbr.mono ?_
    rintro e w8 ⟨g8, a8, b8, term8, lead8, both8, V8, xs8, vc8, D8, ds8, dc8, rfl, hI8, hT8⟩
    have HR8 := Lib.hid (hT8.other _ _ _ HR6.out (by decide) (by decide) (by decide))
    have HI8 := Lib.hid hI8
    have HT8 := Lib.hid (HT6.out.tr hT8)
    clear hbr hI8 hT8
    obtain ⟨hr8_0, hr8_1, hr8_2, hr8_3, hr8_4, hr8_5, hr8_f0, hr8_f1, hr8_f2, hr8_f3, hr8_f4, hr8_f5, hr8_y⟩ := k6f HR8.out
    go_wp2
    clear hr8_0 hr8_1 hr8_2 hr8_3 hr8_4 hr8_5 hr8_f0 hr8_f1 hr8_f2 hr8_f3 hr8_f4 hr8_f5 hr8_y
    have hR3 := HR8.out.sets [.slice (some ⟨g8, 0, none⟩) 2 2, .int .i64 term8, .int .i64 lead8, .bool both8, .slice V8 xs8.length vc8, .slice D8 ds8.length dc8] rfl
    refine bodyPost_ret (results_cell_row rfl _ _ (w.heap.size + 1 + 1) 62 (wC g8 term8 lead8 both8 V8 xs8 vc8 D8 ds8 dc8) (0, 0) _ rfl hR3 Tryz.underlying62 rfl (by kernel_rfl)) rfl ?_
    exact ⟨_, _, _, _, _, _, _, _, _, _, _, _, rfl, WI.sets (HI8.out) HR8.out (by decide) (by decide) (by decide) [.slice (some ⟨g8, 0, none⟩) 2 2, .int .i64 term8, .int .i64 lead8, .bool both8, .slice V8 xs8.length vc8, .slice D8 ds8.length dc8] 0, Turn.new (HT8.out) (by omega) [.slice (some ⟨g8, 0, none⟩) 2 2, .int .i64 term8, .int .i64 lead8, .bool both8, .slice V8 xs8.length vc8, .slice D8 ds8.length dc8] 0⟩
   ·have d2 : (ek == 2) = false := by simp [k2]
    obtain ⟨hr6_0, hr6_1, hr6_2, hr6_3, hr6_4, hr6_5, hr6_f0, hr6_f1, hr6_f2, hr6_f3, hr6_f4, hr6_f5, hr6_y⟩ := k6f HR6.out
    go_wp2
    clear hb6_0 hb6_1 hb6_2 hb6_3 hb6_4 hb6_5 hb6_y
    clear he6_0 he6_1 he6_2 he6_3 he6_4 he6_5 he6_6 he6_y
    clear hr6_0 hr6_1 hr6_2 hr6_3 hr6_4 hr6_5 hr6_f0 hr6_f1 hr6_f2 hr6_f3 hr6_f4 hr6_f5 hr6_y
    have hR3 := HR6.out.sets [.slice (some ⟨g, 0, none⟩) 2 2, .int .i64 term, .int .i64 lead, .bool both, .slice E5 ys.length f5, .slice D ds.length dc] rfl
    refine bodyPost_ret (results_cell_row rfl _ _ (w.heap.size + 1 + 1) 62 (wC g term lead both E5 ys f5 D ds dc) (0, 0) _ rfl hR3 Tryz.underlying62 rfl (by kernel_rfl)) rfl ?_
    exact ⟨_, _, _, _, _, _, _, _, _, _, _, _, rfl, WI.sets (HI6.out) HR6.out (by decide) (by decide) (by decide) [.slice (some ⟨g, 0, none⟩) 2 2, .int .i64 term, .int .i64 lead, .bool both, .slice E5 ys.length f5, .slice D ds.length dc] 0, Turn.new (HT6.out) (by omega) [.slice (some ⟨g, 0, none⟩) 2 2, .int .i64 term, .int .i64 lead, .bool both, .slice E5 ys.length f5, .slice D ds.length dc] 0⟩
end
section
variable {w : World} {V D : Option Addr} {base g vc dc : Nat} {a b : NVl} {both : Bool} {term lead ek ea : Int} {ds : List Op} {xs : List LV} {eo : Op}
theorem l22Do_k1 (h : WI w base g a b term lead (.slice V xs.length vc) xs (.slice D ds.length dc) ds) (hbase : base ≤ w.heap.size) (hso : SmallO eo) :
  Calls Tryz.prog 108 #[.agg #[.slice (some ⟨g, 0, none⟩) 2 2, .int .i64 term, .int .i64 lead, .bool both, .slice V xs.length vc, .slice D ds.length dc], .agg #[.int .i64 1, .int .i64 ea, .int .i64 eo.kind, .string eo.name, .string eo.dest, .int .i64 eo.n, .string eo.text]] w (WRes base w) := by
 have HWI := Lib.hid h
 have HBS := Lib.hid hbase
 have HSO := Lib.hid hso
 have hgl := h.blk.lt
 have hw3 : wrap64 (3 - lead) = 3 - lead := by have := h.lead; unfold wrap64; omega
 clear h hbase hso
 cases hi : inR ea 1 2 with
 | false =>
  go_enter Tryz.func108, Tryz.ntmps108
  go_wp2_with fail
  obtain ⟨hW, hB, hE, hR⟩ := allocs3 w (wC g term lead both V xs vc D ds dc) #[.int .i64 1, .int .i64 ea, .int .i64 eo.kind, .string eo.name, .string eo.dest, .int .i64 eo.n, .string eo.text] zW 62 135 62
  generalize (((w.alloc (.cells (wC g term lead both V xs vc D ds dc) 62)).alloc (.cells #[.int .i64 1, .int .i64 ea, .int .i64 eo.kind, .string eo.name, .string eo.dest, .int .i64 eo.n, .string eo.text] 135)).alloc (.cells zW 62)) = W0 at hW hB hE hR ⊢
  have HB := Lib.hid hB
  have HE := Lib.hid hE
  have HR := Lib.hid hR
  have HI := Lib.hid (HWI.out.bel hW)
  have HT := Lib.hid (Turn.of_bel (base := base) hW)
  have hrl := hR.lt
  have HWB := Lib.hid hW
  clear hW hB hE hR
  have hl := l6In_c ea 1 2 W0
  rw [hi] at hl
  refine hl.mono ?_
  rintro e w1 ⟨rfl, rfl⟩
  clear hl
  obtain ⟨hb_0, hb_1, hb_2, hb_3, hb_4, hb_5, hb_y⟩ := k6c HB.out
  obtain ⟨hr_0, hr_1, hr_2, hr_3, hr_4, hr_5, hr_f0, hr_f1, hr_f2, hr_f3, hr_f4, hr_f5, hr_y⟩ := k6f HR.out
  go_wp2
  clear hb_0 hb_1 hb_2 hb_3 hb_4 hb_5 hb_y
  clear hr_0 hr_1 hr_2 hr_3 hr_4 hr_5 hr_f0 hr_f1 hr_f2 hr_f3 hr_f4 hr_f5 hr_y
  have hR3 := HR.out.sets [.slice (some ⟨g, 0, none⟩) 2 2, .int .i64 term, .int .i64 lead, .bool both, .slice V xs.length vc, .slice D ds.length dc] rfl
  refine bodyPost_ret (results_cell_row rfl _ _ (w.heap.size + 1 + 1) 62 (wC g term lead both V xs vc D ds dc) (0, 0) _ rfl hR3 Tryz.underlying62 rfl (by kernel_rfl)) rfl ?_
  exact ⟨_, _, _, _, _, _, _, _, _, _, _, _, rfl, WI.sets (HI.out) HR.out (by decide) (by decide) (by decide) [.slice (some ⟨g, 0, none⟩) 2 2, .int .i64 term, .int .i64 lead, .bool both, .slice V xs.length vc, .slice D ds.length dc] 0, Turn.new (HT.out) (by omega) [.slice (some ⟨g, 0, none⟩) 2 2, .int .i64 term, .int .i64 lead, .bool both, .slice V xs.length vc, .slice D ds.length dc] 0⟩
 | true =>
  go_enter Tryz.func108, Tryz.ntmps108
  go_wp2_with fail
  obtain ⟨hW, hB, hE, hR⟩ := allocs3 w (wC g term lead both V xs vc D ds dc) #[.int .i64 1, .int .i64 ea, .int .i64 eo.kind, .string eo.name, .string eo.dest, .int .i64 eo.n, .string eo.text] zW 62 135 62
  generalize (((w.alloc (.cells (wC g term lead both V xs vc D ds dc) 62)).alloc (.cells #[.int .i64 1, .int .i64 ea, .int .i64 eo.kind, .string eo.name, .string eo.dest, .int .i64 eo.n, .string eo.text] 135)).alloc (.cells zW 62)) = W0 at hW hB hE hR ⊢
  have HB := Lib.hid hB
  have HE := Lib.hid hE
  have HR := Lib.hid hR
  have HI := Lib.hid (HWI.out.bel hW)
  have HT := Lib.hid (Turn.of_bel (base := base) hW)
  have hrl := hR.lt
  have HWB := Lib.hid hW
  clear hW hB hE hR
  have hl := l6In_c ea 1 2 W0
  rw [hi] at hl
  refine hl.mono ?_
  rintro e w1 ⟨rfl, rfl⟩
  clear hl
  obtain ⟨hb_0, hb_1, hb_2, hb_3, hb_4, hb_5, hb_y⟩ := k6c HB.out
  obtain ⟨he_0, he_1, he_2, he_3, he_4, he_5, he_6, he_y⟩ := k7c HE.out
  go_wp2_with fail
  clear hb_0 hb_1 hb_2 hb_3 hb_4 hb_5 hb_y
  clear he_0 he_1 he_2 he_3 he_4 he_5 he_6 he_y
  have hbr : Calls Tryz.prog 122 #[.agg #[.slice (some ⟨g, 0, none⟩) 2 2, .int .i64 term, .int .i64 lead, .bool both, .slice V xs.length vc, .slice D ds.length dc], .int .i64 ea, .agg #[.int .i64 eo.kind, .string eo.name, .string eo.dest, .int .i64 eo.n, .string eo.text]] W0 (WRes base W0) := by
   obtain ⟨j, hj, rfl⟩ := idxJ (inR12 hi)
   obtain ⟨⟨⟨au, ta, al, aa, xa⟩, A, ac⟩, y, hJ⟩ := HI.out.toJ hj
   exact l22Ask_j hJ (Nat.le_trans HBS.out HT.out.size) HSO.out
  refine (hbr).mono ?_
  rintro e w8 ⟨g8, a8, b8, term8, lead8, both8, V8, xs8, vc8, D8, ds8, dc8, rfl, hI8, hT8⟩
  have HR8 := Lib.hid (hT8.other _ _ _ HR.out (by decide) (by decide) (by decide))
  have HI8 := Lib.hid hI8
  have HT8 := Lib.hid (HT.out.tr hT8)
  clear hI8 hT8
  obtain ⟨hr8_0, hr8_1, hr8_2, hr8_3, hr8_4, hr8_5, hr8_f0, hr8_f1, hr8_f2, hr8_f3, hr8_f4, hr8_f5, hr8_y⟩ := k6f HR8.out
  go_wp2
  clear hr8_0 hr8_1 hr8_2 hr8_3 hr8_4 hr8_5 hr8_f0 hr8_f1 hr8_f2 hr8_f3 hr8_f4 hr8_f5 hr8_y
  have hR3 := HR8.out.sets [.slice (some ⟨g8, 0, none⟩) 2 2, .int .i64 term8, .int .i64 lead8, .bool both8, .slice V8 xs8.length vc8, .slice D8 ds8.length dc8] rfl
  refine bodyPost_ret (results_cell_row rfl _ _ (w.heap.size + 1 + 1) 62 (wC g8 term8 lead8 both8 V8 xs8 vc8 D8 ds8 dc8) (0, 0) _ rfl hR3 Tryz.underlying62 rfl (by kernel_rfl)) rfl ?_
  exact ⟨_, _, _, _, _, _, _, _, _, _, _, _, rfl, WI.sets (HI8.out) HR8.out (by decide) (by decide) (by decide) [.slice (some ⟨g8, 0, none⟩) 2 2, .int .i64 term8, .int .i64 lead8, .bool both8, .slice V8 xs8.length vc8, .slice D8 ds8.length dc8] 0, Turn.new (HT8.out) (by omega) [.slice (some ⟨g8, 0, none⟩) 2 2, .int .i64 term8, .int .i64 lead8, .bool both8, .slice V8 xs8.length vc8, .slice D8 ds8.length dc8] 0⟩
theorem l22Do_k2 (h : WI w base g a b term lead (.slice V xs.length vc) xs (.slice D ds.length dc) ds) (hbase : base ≤ w.heap.size) (hso : SmallO eo) :
  Calls Tryz.prog 108 #[.agg #[.slice (some ⟨g, 0, none⟩) 2 2, .int .i64 term, .int .i64 lead, .bool both, .slice V xs.length vc, .slice D ds.length dc], .agg #[.int .i64 2, .int .i64 ea, .int .i64 eo.kind, .string eo.name, .string eo.dest, .int .i64 eo.n, .string eo.text]] w (WRes base w) := by
 have HWI := Lib.hid h
 have HBS := Lib.hid hbase
 have HSO := Lib.hid hso
 have hgl := h.blk.lt
 have hw3 : wrap64 (3 - lead) = 3 - lead := by have := h.lead; unfold wrap64; omega
 clear h hbase hso
 go_enter Tryz.func108, Tryz.ntmps108
 go_wp2_with fail
 obtain ⟨hW, hB, hE, hR⟩ := allocs3 w (wC g term lead both V xs vc D ds dc) #[.int .i64 2, .int .i64 ea, .int .i64 eo.kind, .string eo.name, .string eo.dest, .int .i64 eo.n, .string eo.text] zW 62 135 62
 generalize (((w.alloc (.cells (wC g term lead both V xs vc D ds dc) 62)).alloc (.cells #[.int .i64 2, .int .i64 ea, .int .i64 eo.kind, .string eo.name, .string eo.dest, .int .i64 eo.n, .string eo.text] 135)).alloc (.cells zW 62)) = W0 at hW hB hE hR ⊢
 have HB := Lib.hid hB
 have HE := Lib.hid hE
 have HR := Lib.hid hR
 have HI := Lib.hid (HWI.out.bel hW)
 have HT := Lib.hid (Turn.of_bel (base := base) hW)
 have hrl := hR.lt
 have HWB := Lib.hid hW
 clear hW hB hE hR
 refine (l22Net_c HI.out (Nat.le_trans HBS.out HT.out.size)).mono ?_
 rintro e w8 ⟨g8, a8, b8, term8, lead8, both8, V8, xs8, vc8, D8, ds8, dc8, rfl, hI8, hT8⟩
 have HR8 := Lib.hid (hT8.other _ _ _ HR.out (by decide) (by decide) (by decide))
 have HI8 := Lib.hid hI8
 have HT8 := Lib.hid (HT.out.tr hT8)
 clear hI8 hT8
 obtain ⟨hr8_0, hr8_1, hr8_2, hr8_3, hr8_4, hr8_5, hr8_f0, hr8_f1, hr8_f2, hr8_f3, hr8_f4, hr8_f5, hr8_y⟩ := k6f HR8.out
 go_wp2
 clear hr8_0 hr8_1 hr8_2 hr8_3 hr8_4 hr8_5 hr8_f0 hr8_f1 hr8_f2 hr8_f3 hr8_f4 hr8_f5 hr8_y
 have hR3 := HR8.out.sets [.slice (some ⟨g8, 0, none⟩) 2 2, .int .i64 term8, .int .i64 lead8, .bool both8, .slice V8 xs8.length vc8, .slice D8 ds8.length dc8] rfl
 refine bodyPost_ret (results_cell_row rfl _ _ (w.heap.size + 1 + 1) 62 (wC g8 term8 lead8 both8 V8 xs8 vc8 D8 ds8 dc8) (0, 0) _ rfl hR3 Tryz.underlying62 rfl (by kernel_rfl)) rfl ?_
 exact ⟨_, _, _, _, _, _, _, _, _, _, _, _, rfl, WI.sets (HI8.out) HR8.out (by decide) (by decide) (by decide) [.slice (some ⟨g8, 0, none⟩) 2 2, .int .i64 term8, .int .i64 lead8, .bool both8, .slice V8 xs8.length vc8, .slice D8 ds8.length dc8] 0, Turn.new (HT8.out) (by omega) [.slice (some ⟨g8, 0, none⟩) 2 2, .int .i64 term8, .int .i64 lead8, .bool both8, .slice V8 xs8.length vc8, .slice D8 ds8.length dc8] 0⟩
theorem l22Do_k3 (h : WI w base g a b term lead (.slice V xs.length vc) xs (.slice D ds.length dc) ds) (hbase : base ≤ w.heap.size) (hso : SmallO eo) :
  Calls Tryz.prog 108 #[.agg #[.slice (some ⟨g, 0, none⟩) 2 2, .int .i64 term, .int .i64 lead, .bool both, .slice V xs.length vc, .slice D ds.length dc], .agg #[.int .i64 3, .int .i64 ea, .int .i64 eo.kind, .string eo.name, .string eo.dest, .int .i64 eo.n, .string eo.text]] w (WRes base w) := by
 have HWI := Lib.hid h
 have HBS := Lib.hid hbase
 have HSO := Lib.hid hso
 have hgl := h.blk.lt
 have hw3 : wrap64 (3 - lead) = 3 - lead := by have := h.lead; unfold wrap64; omega
 clear h hbase hso
 go_enter Tryz.func108, Tryz.ntmps108
 go_wp2_with fail
 obtain ⟨hW, hB, hE, hR⟩ := allocs3 w (wC g term lead both V xs vc D ds dc) #[.int .i64 3, .int .i64 ea, .int .i64 eo.kind, .string eo.name, .string eo.dest, .int .i64 eo.n, .string eo.text] zW 62 135 62
 generalize (((w.alloc (.cells (wC g term lead both V xs vc D ds dc) 62)).alloc (.cells #[.int .i64 3, .int .i64 ea, .int .i64 eo.kind, .string eo.name, .string eo.dest, .int .i64 eo.n, .string eo.text] 135)).alloc (.cells zW 62)) = W0 at hW hB hE hR ⊢
 have HB := Lib.hid hB
 have HE := Lib.hid hE
 have HR := Lib.hid hR
 have HI := Lib.hid (HWI.out.bel hW)
 have HT := Lib.hid (Turn.of_bel (base := base) hW)
 have hrl := hR.lt
 have HWB := Lib.hid hW
 clear hW hB hE hR
 refine (l22Net_c HI.out (Nat.le_trans HBS.out HT.out.size)).mono ?_
 rintro e w8 ⟨g8, a8, b8, term8, lead8, both8, V8, xs8, vc8, D8, ds8, dc8, rfl, hI8, hT8⟩
 have HR8 := Lib.hid (hT8.other _ _ _ HR.out (by decide) (by decide) (by decide))
 have HI8 := Lib.hid hI8
 have HT8 := Lib.hid (HT.out.tr hT8)
 clear hI8 hT8
 obtain ⟨hr8_0, hr8_1, hr8_2, hr8_3, hr8_4, hr8_5, hr8_f0, hr8_f1, hr8_f2, hr8_f3, hr8_f4, hr8_f5, hr8_y⟩ := k6f HR8.out
 go_wp2
 clear hr8_0 hr8_1 hr8_2 hr8_3 hr8_4 hr8_5 hr8_f0 hr8_f1 hr8_f2 hr8_f3 hr8_f4 hr8_f5 hr8_y
 have hR3 := HR8.out.sets [.slice (some ⟨g8, 0, none⟩) 2 2, .int .i64 term8, .int .i64 lead8, .bool both8, .slice V8 xs8.length vc8, .slice D8 ds8.length dc8] rfl
 refine bodyPost_ret (results_cell_row rfl _ _ (w.heap.size + 1 + 1) 62 (wC g8 term8 lead8 both8 V8 xs8 vc8 D8 ds8 dc8) (0, 0) _ rfl hR3 Tryz.underlying62 rfl (by kernel_rfl)) rfl ?_
 exact ⟨_, _, _, _, _, _, _, _, _, _, _, _, rfl, WI.sets (HI8.out) HR8.out (by decide) (by decide) (by decide) [.slice (some ⟨g8, 0, none⟩) 2 2, .int .i64 term8, .int .i64 lead8, .bool both8, .slice V8 xs8.length vc8, .slice D8 ds8.length dc8] 0, Turn.new (HT8.out) (by omega) [.slice (some ⟨g8, 0, none⟩) 2 2, .int .i64 term8, .int .i64 lead8, .bool both8, .slice V8 xs8.length vc8, .slice D8 ds8.length dc8] 0⟩
theorem l22Do_k4 (h : WI w base g a b term lead (.slice V xs.length vc) xs (.slice D ds.length dc) ds) (hbase : base ≤ w.heap.size) (hso : SmallO eo) :
  Calls Tryz.prog 108 #[.agg #[.slice (some ⟨g, 0, none⟩) 2 2, .int .i64 term, .int .i64 lead, .bool both, .slice V xs.length vc, .slice D ds.length dc], .agg #[.int .i64 4, .int .i64 ea, .int .i64 eo.kind, .string eo.name, .string eo.dest, .int .i64 eo.n, .string eo.text]] w (WRes base w) := by
 have HWI := Lib.hid h
 have HBS := Lib.hid hbase
 have HSO := Lib.hid hso
 have hgl := h.blk.lt
 have hw3 : wrap64 (3 - lead) = 3 - lead := by have := h.lead; unfold wrap64; omega
 clear h hbase hso
 go_enter Tryz.func108, Tryz.ntmps108
 go_wp2_with fail
 obtain ⟨hW, hB, hE, hR⟩ := allocs3 w (wC g term lead both V xs vc D ds dc) #[.int .i64 4, .int .i64 ea, .int .i64 eo.kind, .string eo.name, .string eo.dest, .int .i64 eo.n, .string eo.text] zW 62 135 62
 generalize (((w.alloc (.cells (wC g term lead both V xs vc D ds dc) 62)).alloc (.cells #[.int .i64 4, .int .i64 ea, .int .i64 eo.kind, .string eo.name, .string eo.dest, .int .i64 eo.n, .string eo.text] 135)).alloc (.cells zW 62)) = W0 at hW hB hE hR ⊢
 have HB := Lib.hid hB
 have HE := Lib.hid hE
 have HR := Lib.hid hR
 have HI := Lib.hid (HWI.out.bel hW)
 have HT := Lib.hid (Turn.of_bel (base := base) hW)
 have hrl := hR.lt
 have HWB := Lib.hid hW
 clear hW hB hE hR
 refine (l22Net_c HI.out (Nat.le_trans HBS.out HT.out.size)).mono ?_
 rintro e w8 ⟨g8, a8, b8, term8, lead8, both8, V8, xs8, vc8, D8, ds8, dc8, rfl, hI8, hT8⟩
 have HR8 := Lib.hid (hT8.other _ _ _ HR.out (by decide) (by decide) (by decide))
 have HI8 := Lib.hid hI8
 have HT8 := Lib.hid (HT.out.tr hT8)
 clear hI8 hT8
 obtain ⟨hr8_0, hr8_1, hr8_2, hr8_3, hr8_4, hr8_5, hr8_f0, hr8_f1, hr8_f2, hr8_f3, hr8_f4, hr8_f5, hr8_y⟩ := k6f HR8.out
 go_wp2
 clear hr8_0 hr8_1 hr8_2 hr8_3 hr8_4 hr8_5 hr8_f0 hr8_f1 hr8_f2 hr8_f3 hr8_f4 hr8_f5 hr8_y
 have hR3 := HR8.out.sets [.slice (some ⟨g8, 0, none⟩) 2 2, .int .i64 term8, .int .i64 lead8, .bool both8, .slice V8 xs8.length vc8, .slice D8 ds8.length dc8] rfl
 refine bodyPost_ret (results_cell_row rfl _ _ (w.heap.size + 1 + 1) 62 (wC g8 term8 lead8 both8 V8 xs8 vc8 D8 ds8 dc8) (0, 0) _ rfl hR3 Tryz.underlying62 rfl (by kernel_rfl)) rfl ?_
 exact ⟨_, _, _, _, _, _, _, _, _, _, _, _, rfl, WI.sets (HI8.out) HR8.out (by decide) (by decide) (by decide) [.slice (some ⟨g8, 0, none⟩) 2 2, .int .i64 term8, .int .i64 lead8, .bool both8, .slice V8 xs8.length vc8, .slice D8 ds8.length dc8] 0, Turn.new (HT8.out) (by omega) [.slice (some ⟨g8, 0, none⟩) 2 2, .int .i64 term8, .int .i64 lead8, .bool both8, .slice V8 xs8.length vc8, .slice D8 ds8.length dc8] 0⟩
theorem l22Do_k5 (h : WI w base g a b term lead (.slice V xs.length vc) xs (.slice D ds.length dc) ds) (hbase : base ≤ w.heap.size) (hso : SmallO eo) :
  Calls Tryz.prog 108 #[.agg #[.slice (some ⟨g, 0, none⟩) 2 2, .int .i64 term, .int .i64 lead, .bool both, .slice V xs.length vc, .slice D ds.length dc], .agg #[.int .i64 5, .int .i64 ea, .int .i64 eo.kind, .string eo.name, .string eo.dest, .int .i64 eo.n, .string eo.text]] w (WRes base w) := by
 have HWI := Lib.hid h
 have HBS := Lib.hid hbase
 have HSO := Lib.hid hso
 have hgl := h.blk.lt
 have hw3 : wrap64 (3 - lead) = 3 - lead := by have := h.lead; unfold wrap64; omega
 clear h hbase hso
 cases hi : inR ea 1 2 with
 | false =>
  go_enter Tryz.func108, Tryz.ntmps108
  go_wp2_with fail
  obtain ⟨hW, hB, hE, hR⟩ := allocs3 w (wC g term lead both V xs vc D ds dc) #[.int .i64 5, .int .i64 ea, .int .i64 eo.kind, .string eo.name, .string eo.dest, .int .i64 eo.n, .string eo.text] zW 62 135 62
  generalize (((w.alloc (.cells (wC g term lead both V xs vc D ds dc) 62)).alloc (.cells #[.int .i64 5, .int .i64 ea, .int .i64 eo.kind, .string eo.name, .string eo.dest, .int .i64 eo.n, .string eo.text] 135)).alloc (.cells zW 62)) = W0 at hW hB hE hR ⊢
  have HB := Lib.hid hB
  have HE := Lib.hid hE
  have HR := Lib.hid hR
  have HI := Lib.hid (HWI.out.bel hW)
  have HT := Lib.hid (Turn.of_bel (base := base) hW)
  have hrl := hR.lt
  have HWB := Lib.hid hW
  clear hW hB hE hR
  have hl := l6In_c ea 1 2 W0
  rw [hi] at hl
  refine hl.mono ?_
  rintro e w1 ⟨rfl, rfl⟩
  clear hl
  obtain ⟨hb_0, hb_1, hb_2, hb_3, hb_4, hb_5, hb_y⟩ := k6c HB.out
  obtain ⟨hr_0, hr_1, hr_2, hr_3, hr_4, hr_5, hr_f0, hr_f1, hr_f2, hr_f3, hr_f4, hr_f5, hr_y⟩ := k6f HR.out
  go_wp2
  clear hb_0 hb_1 hb_2 hb_3 hb_4 hb_5 hb_y
  clear hr_0 hr_1 hr_2 hr_3 hr_4 hr_5 hr_f0 hr_f1 hr_f2 hr_f3 hr_f4 hr_f5 hr_y
  have hR3 := HR.out.sets [.slice (some ⟨g, 0, none⟩) 2 2, .int .i64 term, .int .i64 lead, .bool both, .slice V xs.length vc, .slice D ds.length dc] rfl
  refine bodyPost_ret (results_cell_row rfl _ _ (w.heap.size + 1 + 1) 62 (wC g term lead both V xs vc D ds dc) (0, 0) _ rfl hR3 Tryz.underlying62 rfl (by kernel_rfl)) rfl ?_
  exact ⟨_, _, _, _, _, _, _, _, _, _, _, _, rfl, WI.sets (HI.out) HR.out (by decide) (by decide) (by decide) [.slice (some ⟨g, 0, none⟩) 2 2, .int .i64 term, .int .i64 lead, .bool both, .slice V xs.length vc, .slice D ds.length dc] 0, Turn.new (HT.out) (by omega) [.slice (some ⟨g, 0, none⟩) 2 2, .int .i64 term, .int .i64 lead, .bool both, .slice V xs.length vc, .slice D ds.length dc] 0⟩
 | true =>
  obtain ⟨j, hj, rfl⟩ := idxJ (inR12 hi)
  obtain ⟨⟨⟨au, ta, al, aa, xa⟩, A, ac⟩, y, hJ⟩ := HWI.out.toJ hj
  have HJ := Lib.hid hJ
  clear hJ
  have hj2 : (j : Int) < 2 := by omega
  have hw0 : wrap64 (j : Int) = (j : Int) := by unfold wrap64; omega
  go_enter Tryz.func108, Tryz.ntmps108
  go_wp2_with fail
  obtain ⟨hW, hB, hE, hR⟩ := allocs3 w (wC g term lead both V xs vc D ds dc) #[.int .i64 5, .int .i64 ((j : Int) + 1), .int .i64 eo.kind, .string eo.name, .string eo.dest, .int .i64 eo.n, .string eo.text] zW 62 135 62
  generalize (((w.alloc (.cells (wC g term lead both V xs vc D ds dc) 62)).alloc (.cells #[.int .i64 5, .int .i64 ((j : Int) + 1), .int .i64 eo.kind, .string eo.name, .string eo.dest, .int .i64 eo.n, .string eo.text] 135)).alloc (.cells zW 62)) = W0 at hW hB hE hR ⊢
  have HB := Lib.hid hB
  have HE := Lib.hid hE
  have HR := Lib.hid hR
  have HI := Lib.hid (HWI.out.bel hW)
  have HT := Lib.hid (Turn.of_bel (base := base) hW)
  have hrl := hR.lt
  have HWB := Lib.hid hW
  clear hW hB hE hR
  have HK := Lib.hid (HJ.out.bel (w' := W0) HWB.out)
  have hl := l6In_c ((j : Int) + 1) 1 2 W0
  rw [hi] at hl
  refine hl.mono ?_
  rintro e w1 ⟨rfl, rfl⟩
  clear hl
  obtain ⟨hb_0, hb_1, hb_2, hb_3, hb_4, hb_5, hb_y⟩ := k6c HB.out
  obtain ⟨he_0, he_1, he_2, he_3, he_4, he_5, he_6, he_y⟩ := k7c HE.out
  obtain ⟨hr_0, hr_1, hr_2, hr_3, hr_4, hr_5, hr_f0, hr_f1, hr_f2, hr_f3, hr_f4, hr_f5, hr_y⟩ := k6f HR.out
  obtain ⟨g_0, -, -, -, -⟩ := cells2_at HK.out.blk hj
  have g_f := HK.out.blk.free (j * 5)
  have g_y := HK.out.blk.lt
  dsimp only at g_0
  go_wp2
  clear hb_0 hb_1 hb_2 hb_3 hb_4 hb_5 hb_y
  clear he_0 he_1 he_2 he_3 he_4 he_5 he_6 he_y
  clear hr_0 hr_1 hr_2 hr_3 hr_4 hr_5 hr_f0 hr_f1 hr_f2 hr_f3 hr_f4 hr_f5 hr_y
  clear g_0 g_f g_y
  have hG1 : Blk (W0.setCell ⟨g, j * 5, none⟩ (.bool false)) g (cells2 j ⟨⟨false, ta, al, aa, xa⟩, A, ac⟩ y) 25 := cells2_set (i := 0) HK.out.blk hj (by omega) rfl
  have hO1 := HK.out.o.sets HK.out.blk (by decide) (by decide) [.bool false] (j * 5)
  obtain ⟨a9, b9, hI1⟩ := wi_of hG1 HI.out.ge (show WO _ base ⟨⟨false, ta, al, aa, xa⟩, A, ac⟩ y _ _ _ _ from hO1.flagA rfl rfl) HI.out.lead HI.out.term hj
  have hT1 : Turn base w (W0.setCell ⟨g, j * 5, none⟩ (.bool false)) := HT.out.tr (Turn.grown (grown_wsets g [.bool false] W0 (j * 5)) (fun k e => by cases e; exact ⟨HI.out.ge, _, _, HI.out.blk, .inl rfl⟩))
  have HRz := Lib.hid (HR.out.apart (show g ≠ w.heap.size + 1 + 1 by omega) (j * 5) (.bool false))
  have hR3 := HRz.out.sets [.slice (some ⟨g, 0, none⟩) 2 2, .int .i64 term, .int .i64 lead, .bool both, .slice V xs.length vc, .slice D ds.length dc] rfl
  refine bodyPost_ret (results_cell_row rfl _ _ (w.heap.size + 1 + 1) 62 (wC g term lead both V xs vc D ds dc) (0, 0) _ rfl hR3 Tryz.underlying62 rfl (by kernel_rfl)) rfl ?_
  exact ⟨_, _, _, _, _, _, _, _, _, _, _, _, rfl, WI.sets (hI1) HRz.out (by decide) (by decide) (by decide) [.slice (some ⟨g, 0, none⟩) 2 2, .int .i64 term, .int .i64 lead, .bool both, .slice V xs.length vc, .slice D ds.length dc] 0, Turn.new (hT1) (by omega) [.slice (some ⟨g, 0, none⟩) 2 2, .int .i64 term, .int .i64 lead, .bool both, .slice V xs.length vc, .slice D ds.length dc] 0⟩
theorem l22Do_k6 (h : WI w base g a b term lead (.slice V xs.length vc) xs (.slice D ds.length dc) ds) (hbase : base ≤ w.heap.size) (hso : SmallO eo) :
  Calls Tryz.prog 108 #[.agg #[.slice (some ⟨g, 0, none⟩) 2 2, .int .i64 term, .int .i64 lead, .bool both, .slice V xs.length vc, .slice D ds.length dc], .agg #[.int .i64 6, .int .i64 ea, .int .i64 eo.kind, .string eo.name, .string eo.dest, .int .i64 eo.n, .string eo.text]] w (WRes base w) := by
 have HWI := Lib.hid h
 have HBS := Lib.hid hbase
 have HSO := Lib.hid hso
 have hgl := h.blk.lt
 have hw3 : wrap64 (3 - lead) = 3 - lead := by have := h.lead; unfold wrap64; omega
 clear h hbase hso
 cases hi : inR ea 1 2 with
 | false =>
  go_enter Tryz.func108, Tryz.ntmps108
  go_wp2_with fail
  obtain ⟨hW, hB, hE, hR⟩ := allocs3 w (wC g term lead both V xs vc D ds dc) #[.int .i64 6, .int .i64 ea, .int .i64 eo.kind, .string eo.name, .string eo.dest, .int .i64 eo.n, .string eo.text] zW 62 135 62
  generalize (((w.alloc (.cells (wC g term lead both V xs vc D ds dc) 62)).alloc (.cells #[.int .i64 6, .int .i64 ea, .int .i64 eo.kind, .string eo.name, .string eo.dest, .int .i64 eo.n, .string eo.text] 135)).alloc (.cells zW 62)) = W0 at hW hB hE hR ⊢
  have HB := Lib.hid hB
  have HE := Lib.hid hE
  have HR := Lib.hid hR
  have HI := Lib.hid (HWI.out.bel hW)
  have HT := Lib.hid (Turn.of_bel (base := base) hW)
  have hrl := hR.lt
  have HWB := Lib.hid hW
  clear hW hB hE hR
  have hl := l6In_c ea 1 2 W0
  rw [hi] at hl
  refine hl.mono ?_
  rintro e w1 ⟨rfl, rfl⟩
  clear hl
  obtain ⟨hb_0, hb_1, hb_2, hb_3, hb_4, hb_5, hb_y⟩ := k6c HB.out
  obtain ⟨hr_0, hr_1, hr_2, hr_3, hr_4, hr_5, hr_f0, hr_f1, hr_f2, hr_f3, hr_f4, hr_f5, hr_y⟩ := k6f HR.out
  go_wp2
  clear hb_0 hb_1 hb_2 hb_3 hb_4 hb_5 hb_y
  clear hr_0 hr_1 hr_2 hr_3 hr_4 hr_5 hr_f0 hr_f1 hr_f2 hr_f3 hr_f4 hr_f5 hr_y
  have hR3 := HR.out.sets [.slice (some ⟨g, 0, none⟩) 2 2, .int .i64 term, .int .i64 lead, .bool both, .slice V xs.length vc, .slice D ds.length dc] rfl
  refine bodyPost_ret (results_cell_row rfl _ _ (w.heap.size + 1 + 1) 62 (wC g term lead both V xs vc D ds dc) (0, 0) _ rfl hR3 Tryz.underlying62 rfl (by kernel_rfl)) rfl ?_
  exact ⟨_, _, _, _, _, _, _, _, _, _, _, _, rfl, WI.sets (HI.out) HR.out (by decide) (by decide) (by decide) [.slice (some ⟨g, 0, none⟩) 2 2, .int .i64 term, .int .i64 lead, .bool both, .slice V xs.length vc, .slice D ds.length dc] 0, Turn.new (HT.out) (by omega) [.slice (some ⟨g, 0, none⟩) 2 2, .int .i64 term, .int .i64 lead, .bool both, .slice V xs.length vc, .slice D ds.length dc] 0⟩
 | true =>
  obtain ⟨j, hj, rfl⟩ := idxJ (inR12 hi)
  obtain ⟨⟨⟨au, ta, al, aa, xa⟩, A, ac⟩, y, hJ⟩ := HWI.out.toJ hj
  have HJ := Lib.hid hJ
  clear hJ
  have hj2 : (j : Int) < 2 := by omega
  have hw0 : wrap64 (j : Int) = (j : Int) := by unfold wrap64; omega
  go_enter Tryz.func108, Tryz.ntmps108
  go_wp2_with fail
  obtain ⟨hW, hB, hE, hR⟩ := allocs3 w (wC g term lead both V xs vc D ds dc) #[.int .i64 6, .int .i64 ((j : Int) + 1), .int .i64 eo.kind, .string eo.name, .string eo.dest, .int .i64 eo.n, .string eo.text] zW 62 135 62
  generalize (((w.alloc (.cells (wC g term lead both V xs vc D ds dc) 62)).alloc (.cells #[.int .i64 6, .int .i64 ((j : Int) + 1), .int .i64 eo.kind, .string eo.name, .string eo.dest, .int .i64 eo.n, .string eo.text] 135)).alloc (.cells zW 62)) = W0 at hW hB hE hR ⊢
  have HB := Lib.hid hB
  have HE := Lib.hid hE
  have HR := Lib.hid hR
  have HI := Lib.hid (HWI.out.bel hW)
  have HT := Lib.hid (Turn.of_bel (base := base) hW)
  have hrl := hR.lt
  have HWB := Lib.hid hW
  clear hW hB hE hR
  have HK := Lib.hid (HJ.out.bel (w' := W0) HWB.out)
  have hl := l6In_c ((j : Int) + 1) 1 2 W0
  rw [hi] at hl
  refine hl.mono ?_
  rintro e w1 ⟨rfl, rfl⟩
  clear hl
  obtain ⟨hb_0, hb_1, hb_2, hb_3, hb_4, hb_5, hb_y⟩ := k6c HB.out
  obtain ⟨he_0, he_1, he_2, he_3, he_4, he_5, he_6, he_y⟩ := k7c HE.out
  obtain ⟨hr_0, hr_1, hr_2, hr_3, hr_4, hr_5, hr_f0, hr_f1, hr_f2, hr_f3, hr_f4, hr_f5, hr_y⟩ := k6f HR.out
  obtain ⟨g_0, -, -, -, -⟩ := cells2_at HK.out.blk hj
  have g_f := HK.out.blk.free (j * 5)
  have g_y := HK.out.blk.lt
  dsimp only at g_0
  go_wp2
  clear hb_0 hb_1 hb_2 hb_3 hb_4 hb_5 hb_y
  clear he_0 he_1 he_2 he_3 he_4 he_5 he_6 he_y
  clear hr_0 hr_1 hr_2 hr_3 hr_4 hr_5 hr_f0 hr_f1 hr_f2 hr_f3 hr_f4 hr_f5 hr_y
  clear g_0 g_f g_y
  have hG1 : Blk (W0.setCell ⟨g, j * 5, none⟩ (.bool true)) g (cells2 j ⟨⟨true, ta, al, aa, xa⟩, A, ac⟩ y) 25 := cells2_set (i := 0) HK.out.blk hj (by omega) rfl
  have hO1 := HK.out.o.sets HK.out.blk (by decide) (by decide) [.bool true] (j * 5)
  obtain ⟨a9, b9, hI1⟩ := wi_of hG1 HI.out.ge (show WO _ base ⟨⟨true, ta, al, aa, xa⟩, A, ac⟩ y _ _ _ _ from hO1.flagA rfl rfl) HI.out.lead HI.out.term hj
  have hT1 : Turn base w (W0.setCell ⟨g, j * 5, none⟩ (.bool true)) := HT.out.tr (Turn.grown (grown_wsets g [.bool true] W0 (j * 5)) (fun k e => by cases e; exact ⟨HI.out.ge, _, _, HI.out.blk, .inl rfl⟩))
  have HRz := Lib.hid (HR.out.apart (show g ≠ w.heap.size + 1 + 1 by omega) (j * 5) (.bool true))
  have hR3 := HRz.out.sets [.slice (some ⟨g, 0, none⟩) 2 2, .int .i64 term, .int .i64 lead, .bool both, .slice V xs.length vc, .slice D ds.length dc] rfl
  refine bodyPost_ret (results_cell_row rfl _ _ (w.heap.size + 1 + 1) 62 (wC g term lead both V xs vc D ds dc) (0, 0) _ rfl hR3 Tryz.underlying62 rfl (by kernel_rfl)) rfl ?_
  exact ⟨_, _, _, _, _, _, _, _, _, _, _, _, rfl, WI.sets (hI1) HRz.out (by decide) (by decide) (by decide) [.slice (some ⟨g, 0, none⟩) 2 2, .int .i64 term, .int .i64 lead, .bool both, .slice V xs.length vc, .slice D ds.length dc] 0, Turn.new (hT1) (by omega) [.slice (some ⟨g, 0, none⟩) 2 2, .int .i64 term, .int .i64 lead, .bool both, .slice V xs.length vc, .slice D ds.length dc] 0⟩
theorem l22Do_k7 (h : WI w base g a b term lead (.slice V xs.length vc) xs (.slice D ds.length dc) ds) (hbase : base ≤ w.heap.size) (hso : SmallO eo) :
  Calls Tryz.prog 108 #[.agg #[.slice (some ⟨g, 0, none⟩) 2 2, .int .i64 term, .int .i64 lead, .bool both, .slice V xs.length vc, .slice D ds.length dc], .agg #[.int .i64 7, .int .i64 ea, .int .i64 eo.kind, .string eo.name, .string eo.dest, .int .i64 eo.n, .string eo.text]] w (WRes base w) := by
 have HWI := Lib.hid h
 have HBS := Lib.hid hbase
 have HSO := Lib.hid hso
 have hgl := h.blk.lt
 have hw3 : wrap64 (3 - lead) = 3 - lead := by have := h.lead; unfold wrap64; omega
 clear h hbase hso
 cases both with
 | false =>
  go_enter Tryz.func108, Tryz.ntmps108
  go_wp2
  have hA := allocs3 w (wC g term lead false V xs vc D ds dc) #[.int .i64 7, .int .i64 ea, .int .i64 eo.kind, .string eo.name, .string eo.dest, .int .i64 eo.n, .string eo.text] (wC g term lead false V xs vc D ds dc) 62 135 62
  refine bodyPost_ret (results_cell_row rfl _ _ (w.heap.size + 1 + 1) 62 (wC g term lead false V xs vc D ds dc) (0, 0) _ rfl hA.2.2.2 Tryz.underlying62 rfl (by kernel_rfl)) rfl ?_
  exact ⟨_, _, _, _, _, _, _, _, _, _, _, _, rfl, HWI.out.bel hA.1, Turn.of_bel hA.1⟩
 | true =>
  obtain ⟨j, hj, hlj⟩ := idxJ (show 3 - lead = 1 ∨ 3 - lead = 2 by have := HWI.out.lead; omega)
  rw [hlj] at hw3
  obtain ⟨⟨⟨au, ta, al, aa, xa⟩, A, ac⟩, y, hJ⟩ := HWI.out.toJ hj
  have HJ := Lib.hid hJ
  clear hJ
  have hj2 : (j : Int) < 2 := by omega
  have hw0 : wrap64 (j : Int) = (j : Int) := by unfold wrap64; omega
  cases au with
  | false =>
   go_enter Tryz.func108, Tryz.ntmps108
   have g_y := HJ.out.blk.lt
   obtain ⟨g_0, g_1, g_2, g_3, g_4⟩ := cells2_at HJ.out.blk hj
   dsimp only at g_0 g_1 g_2 g_3 g_4
   have g_y1 : g < w.heap.size + 1 := by omega
   have g_y2 : g < w.heap.size + 1 + 1 := by omega
   have g_n0 : ¬ g = w.heap.size := by omega
   have g_n1 : ¬ g = w.heap.size + 1 := by omega
   have g_n2 : ¬ g = w.heap.size + 1 + 1 := by omega
   go_wp2
   clear g_0 g_1 g_2 g_3 g_4 g_y g_y1 g_y2 g_n0 g_n1 g_n2
   have hA := allocs3 w (wC g term lead true V xs vc D ds dc) #[.int .i64 7, .int .i64 ea, .int .i64 eo.kind, .string eo.name, .string eo.dest, .int .i64 eo.n, .string eo.text] (wC g term lead true V xs vc D ds dc) 62 135 62
   refine bodyPost_ret (results_cell_row rfl _ _ (w.heap.size + 1 + 1) 62 (wC g term lead true V xs vc D ds dc) (0, 0) _ rfl hA.2.2.2 Tryz.underlying62 rfl (by kernel_rfl)) rfl ?_
   exact ⟨_, _, _, _, _, _, _, _, _, _, _, _, rfl, HWI.out.bel hA.1, Turn.of_bel hA.1⟩
  | true =>
   go_enter Tryz.func108, Tryz.ntmps108
   have g_y := HJ.out.blk.lt
   obtain ⟨g_0, g_1, g_2, g_3, g_4⟩ := cells2_at HJ.out.blk hj
   dsimp only at g_0 g_1 g_2 g_3 g_4
   have g_y1 : g < w.heap.size + 1 := by omega
   have g_y2 : g < w.heap.size + 1 + 1 := by omega
   have g_n0 : ¬ g = w.heap.size := by omega
   have g_n1 : ¬ g = w.heap.size + 1 := by omega
   have g_n2 : ¬ g = w.heap.size + 1 + 1 := by omega
   go_wp2_with fail
   clear g_0 g_1 g_2 g_3 g_4 g_y g_y1 g_y2 g_n0 g_n1 g_n2
   obtain ⟨hW, hB, hE, hR⟩ := allocs3 w (wC g term lead true V xs vc D ds dc) #[.int .i64 7, .int .i64 ea, .int .i64 eo.kind, .string eo.name, .string eo.dest, .int .i64 eo.n, .string eo.text] zW 62 135 62
   generalize (((w.alloc (.cells (wC g term lead true V xs vc D ds dc) 62)).alloc (.cells #[.int .i64 7, .int .i64 ea, .int .i64 eo.kind, .string eo.name, .string eo.dest, .int .i64 eo.n, .string eo.text] 135)).alloc (.cells zW 62)) = W0 at hW hB hE hR ⊢
   have HB := Lib.hid hB
   have HE := Lib.hid hE
   have HR := Lib.hid hR
   have HI := Lib.hid (HWI.out.bel hW)
   have HT := Lib.hid (Turn.of_bel (base := base) hW)
   have hrl := hR.lt
   have HWB := Lib.hid hW
   clear hW hB hE hR
   have HK := Lib.hid (HJ.out.bel (w' := W0) HWB.out)
   refine (l22Lead_j HK.out (Nat.le_trans HBS.out HT.out.size)).mono ?_
   rintro e w8 ⟨g8, a8, b8, term8, lead8, both8, V8, xs8, vc8, D8, ds8, dc8, rfl, hI8, hT8⟩
   have HR8 := Lib.hid (hT8.other _ _ _ HR.out (by decide) (by decide) (by decide))
   have HI8 := Lib.hid hI8
   have HT8 := Lib.hid (HT.out.tr hT8)
   clear hI8 hT8
   obtain ⟨hr8_0, hr8_1, hr8_2, hr8_3, hr8_4, hr8_5, hr8_f0, hr8_f1, hr8_f2, hr8_f3, hr8_f4, hr8_f5, hr8_y⟩ := k6f HR8.out
   go_wp2
   clear hr8_0 hr8_1 hr8_2 hr8_3 hr8_4 hr8_5 hr8_f0 hr8_f1 hr8_f2 hr8_f3 hr8_f4 hr8_f5 hr8_y
   have hR3 := HR8.out.sets [.slice (some ⟨g8, 0, none⟩) 2 2, .int .i64 term8, .int .i64 lead8, .bool both8, .slice V8 xs8.length vc8, .slice D8 ds8.length dc8] rfl
   refine bodyPost_ret (results_cell_row rfl _ _ (w.heap.size + 1 + 1) 62 (wC g8 term8 lead8 both8 V8 xs8 vc8 D8 ds8 dc8) (0, 0) _ rfl hR3 Tryz.underlying62 rfl (by kernel_rfl)) rfl ?_
   exact ⟨_, _, _, _, _, _, _, _, _, _, _, _, rfl, WI.sets (HI8.out) HR8.out (by decide) (by decide) (by decide) [.slice (some ⟨g8, 0, none⟩) 2 2, .int .i64 term8, .int .i64 lead8, .bool both8, .slice V8 xs8.length vc8, .slice D8 ds8.length dc8] 0, Turn.new (HT8.out) (by omega) [.slice (some ⟨g8, 0, none⟩) 2 2, .int .i64 term8, .int .i64 lead8, .bool both8, .slice V8 xs8.length vc8, .slice D8 ds8.length dc8] 0⟩
theorem l22Do_k8 (h : WI w base g a b term lead (.slice V xs.length vc) xs (.slice D ds.length dc) ds) (hbase : base ≤ w.heap.size) (hso : SmallO eo) :
  Calls Tryz.prog 108 #[.agg #[.slice (some ⟨g, 0, none⟩) 2 2, .int .i64 term, .int .i64 lead, .bool both, .slice V xs.length vc, .slice D ds.length dc], .agg #[.int .i64 8, .int .i64 ea, .int .i64 eo.kind, .string eo.name, .string eo.dest, .int .i64 eo.n, .string eo.text]] w (WRes base w) := by
 have HWI := Lib.hid h
 have HBS := Lib.hid hbase
 have HSO := Lib.hid hso
 have hgl := h.blk.lt
 have hw3 : wrap64 (3 - lead) = 3 - lead := by have := h.lead; unfold wrap64; omega
 clear h hbase hso
 cases both with
 | false =>
  go_enter Tryz.func108, Tryz.ntmps108
  go_wp2
  have hA := allocs3 w (wC g term lead false V xs vc D ds dc) #[.int .i64 8, .int .i64 ea, .int .i64 eo.kind, .string eo.name, .string eo.dest, .int .i64 eo.n, .string eo.text] (wC g term lead false V xs vc D ds dc) 62 135 62
  refine bodyPost_ret (results_cell_row rfl _ _ (w.heap.size + 1 + 1) 62 (wC g term lead false V xs vc D ds dc) (0, 0) _ rfl hA.2.2.2 Tryz.underlying62 rfl (by kernel_rfl)) rfl ?_
  exact ⟨_, _, _, _, _, _, _, _, _, _, _, _, rfl, HWI.out.bel hA.1, Turn.of_bel hA.1⟩
 | true =>
  obtain ⟨j, hj, rfl⟩ := idxJ HWI.out.lead
  clear hw3
  obtain ⟨ol, hol⟩ : ∃ o, wrap64 (3 - ((j : Int) + 1)) = o := ⟨_, rfl⟩
  obtain ⟨⟨⟨au, ta, al, aa, xa⟩, A, ac⟩, y, hJ⟩ := HWI.out.toJ hj
  have HJ := Lib.hid hJ
  clear hJ
  have hj2 : (j : Int) < 2 := by omega
  have hw0 : wrap64 (j : Int) = (j : Int) := by unfold wrap64; omega
  cases au with
  | false =>
   go_enter Tryz.func108, Tryz.ntmps108
   have g_y := HJ.out.blk.lt
   obtain ⟨g_0, g_1, g_2, g_3, g_4⟩ := cells2_at HJ.out.blk hj
   dsimp only at g_0 g_1 g_2 g_3 g_4
   have g_y1 : g < w.heap.size + 1 := by omega
   have g_y2 : g < w.heap.size + 1 + 1 := by omega
   have g_n0 : ¬ g = w.heap.size := by omega
   have g_n1 : ¬ g = w.heap.size + 1 := by omega
   have g_n2 : ¬ g = w.heap.size + 1 + 1 := by omega
   go_wp2
   clear g_0 g_1 g_2 g_3 g_4 g_y g_y1 g_y2 g_n0 g_n1 g_n2
   have hA := allocs3 w #[.slice (some ⟨g, 0, none⟩) 2 2, .int .i64 term, .int .i64 ((j : Int) + 1), .bool true, .slice V xs.length vc, .slice D ds.length dc] #[.int .i64 8, .int .i64 ea, .int .i64 eo.kind, .string eo.name, .string eo.dest, .int .i64 eo.n, .string eo.text] #[.slice (some ⟨g, 0, none⟩) 2 2, .int .i64 term, .int .i64 ((j : Int) + 1), .bool true, .slice V xs.length vc, .slice D ds.length dc] 62 135 62
   refine bodyPost_ret (results_cell_row rfl _ _ (w.heap.size + 1 + 1) 62 #[.slice (some ⟨g, 0, none⟩) 2 2, .int .i64 term, .int .i64 ((j : Int) + 1), .bool true, .slice V xs.length vc, .slice D ds.length dc] (0, 0) _ rfl hA.2.2.2 Tryz.underlying62 rfl (by kernel_rfl)) rfl ?_
   exact ⟨_, _, _, _, _, _, _, _, _, _, _, _, rfl, HWI.out.bel hA.1, Turn.of_bel hA.1⟩
  | true =>
   go_enter Tryz.func108, Tryz.ntmps108
   have g_y := HJ.out.blk.lt
   obtain ⟨g_0, g_1, g_2, g_3, g_4⟩ := cells2_at HJ.out.blk hj
   dsimp only at g_0 g_1 g_2 g_3 g_4
   have g_y1 : g < w.heap.size + 1 := by omega
   have g_y2 : g < w.heap.size + 1 + 1 := by omega
   have g_n0 : ¬ g = w.heap.size := by omega
   have g_n1 : ¬ g = w.heap.size + 1 := by omega
   have g_n2 : ¬ g = w.heap.size + 1 + 1 := by omega
   go_wp2_with fail
   clear g_0 g_1 g_2 g_3 g_4 g_y g_y1 g_y2 g_n0 g_n1 g_n2
   obtain ⟨hW, hB, hE, hR⟩ := allocs3 w #[.slice (some ⟨g, 0, none⟩) 2 2, .int .i64 term, .int .i64 ((j : Int) + 1), .bool true, .slice V xs.length vc, .slice D ds.length dc] #[.int .i64 8, .int .i64 ea, .int .i64 eo.kind, .string eo.name, .string eo.dest, .int .i64 eo.n, .string eo.text] zW 62 135 62
   generalize (((w.alloc (.cells #[.slice (some ⟨g, 0, none⟩) 2 2, .int .i64 term, .int .i64 ((j : Int) + 1), .bool true, .slice V xs.length vc, .slice D ds.length dc] 62)).alloc (.cells #[.int .i64 8, .int .i64 ea, .int .i64 eo.kind, .string eo.name, .string eo.dest, .int .i64 eo.n, .string eo.text] 135)).alloc (.cells zW 62)) = W0 at hW hB hE hR ⊢
   have HB := Lib.hid hB
   have HE := Lib.hid hE
   have HR := Lib.hid hR
   have HI := Lib.hid (HWI.out.bel hW)
   have HT := Lib.hid (Turn.of_bel (base := base) hW)
   have hrl := hR.lt
   have HWB := Lib.hid hW
   clear hW hB hE hR
   have HK := Lib.hid (HJ.out.bel (w' := W0) HWB.out)
   refine (l22Lead_j HK.out (Nat.le_trans HBS.out HT.out.size)).mono ?_
   rintro e w8 ⟨g8, a8, b8, term8, lead8, both8, V8, xs8, vc8, D8, ds8, dc8, rfl, hI8, hT8⟩
   have HR8 := Lib.hid (hT8.other _ _ _ HR.out (by decide) (by decide) (by decide))
   have HI8 := Lib.hid hI8
   have HT8 := Lib.hid (HT.out.tr hT8)
   clear hI8 hT8
   obtain ⟨hr8_0, hr8_1, hr8_2, hr8_3, hr8_4, hr8_5, hr8_f0, hr8_f1, hr8_f2, hr8_f3, hr8_f4, hr8_f5, hr8_y⟩ := k6f HR8.out
   go_wp2
   clear hr8_0 hr8_1 hr8_2 hr8_3 hr8_4 hr8_5 hr8_f0 hr8_f1 hr8_f2 hr8_f3 hr8_f4 hr8_f5 hr8_y
   have hR3 := HR8.out.sets [.slice (some ⟨g8, 0, none⟩) 2 2, .int .i64 term8, .int .i64 lead8, .bool both8, .slice V8 xs8.length vc8, .slice D8 ds8.length dc8] rfl
   refine bodyPost_ret (results_cell_row rfl _ _ (w.heap.size + 1 + 1) 62 (wC g8 term8 lead8 both8 V8 xs8 vc8 D8 ds8 dc8) (0, 0) _ rfl hR3 Tryz.underlying62 rfl (by kernel_rfl)) rfl ?_
   exact ⟨_, _, _, _, _, _, _, _, _, _, _, _, rfl, WI.sets (HI8.out) HR8.out (by decide) (by decide) (by decide) [.slice (some ⟨g8, 0, none⟩) 2 2, .int .i64 term8, .int .i64 lead8, .bool both8, .slice V8 xs8.length vc8, .slice D8 ds8.length dc8] 0, Turn.new (HT8.out) (by omega) [.slice (some ⟨g8, 0, none⟩) 2 2, .int .i64 term8, .int .i64 lead8, .bool both8, .slice V8 xs8.length vc8, .slice D8 ds8.length dc8] 0⟩
theorem l22Do_k9 (h : WI w base g a b term lead (.slice V xs.length vc) xs (.slice D ds.length dc) ds) (hbase : base ≤ w.heap.size) (hso : SmallO eo) :
  Calls Tryz.prog 108 #[.agg #[.slice (some ⟨g, 0, none⟩) 2 2, .int .i64 term, .int .i64 lead, .bool both, .slice V xs.length vc, .slice D ds.length dc], .agg #[.int .i64 9, .int .i64 ea, .int .i64 eo.kind, .string eo.name, .string eo.dest, .int .i64 eo.n, .string eo.text]] w (WRes base w) := by
 have HWI := Lib.hid h
 have HBS := Lib.hid hbase
 have HSO := Lib.hid hso
 have hgl := h.blk.lt
 have hw3 : wrap64 (3 - lead) = 3 - lead := by have := h.lead; unfold wrap64; omega
 clear h hbase hso
 obtain ⟨j, hj, rfl⟩ := idxJ HWI.out.lead
 clear hw3
 have hw3 : wrap64 (3 - ((j : Int) + 1)) = 3 - ((j : Int) + 1) := by unfold wrap64; omega
 have hol2 : 3 - ((j : Int) + 1) = 1 ∨ 3 - ((j : Int) + 1) = 2 := by omega
 obtain ⟨⟨⟨au, ta, al, aa, xa⟩, A, ac⟩, y, hJ⟩ := HWI.out.toJ hj
 have HJ := Lib.hid hJ
 clear hJ
 have hj2 : (j : Int) < 2 := by omega
 have hw0 : wrap64 (j : Int) = (j : Int) := by unfold wrap64; omega
 have hln : xa.length ≤ 20 := HJ.out.o.oa.len
 cases au with
 | false =>
  go_enter Tryz.func108, Tryz.ntmps108
  have g_y := HJ.out.blk.lt
  obtain ⟨g_0, g_1, g_2, g_3, g_4⟩ := cells2_at HJ.out.blk hj
  dsimp only at g_0 g_1 g_2 g_3 g_4
  have g_y1 : g < w.heap.size + 1 := by omega
  have g_y2 : g < w.heap.size + 1 + 1 := by omega
  have g_n0 : ¬ g = w.heap.size := by omega
  have g_n1 : ¬ g = w.heap.size + 1 := by omega
  have g_n2 : ¬ g = w.heap.size + 1 + 1 := by omega
  go_wp2
  clear g_0 g_1 g_2 g_3 g_4 g_y g_y1 g_y2 g_n0 g_n1 g_n2
  have hA := allocs4 w #[.slice (some ⟨g, 0, none⟩) 2 2, .int .i64 term, .int .i64 ((j : Int) + 1), .bool both, .slice V xs.length vc, .slice D ds.length dc] #[.int .i64 9, .int .i64 ea, .int .i64 eo.kind, .string eo.name, .string eo.dest, .int .i64 eo.n, .string eo.text] #[.slice (some ⟨g, 0, none⟩) 2 2, .int .i64 term, .int .i64 ((j : Int) + 1), .bool both, .slice V xs.length vc, .slice D ds.length dc] #[.bool false, .int .i64 ta, .bool al, .bool aa, .slice A xa.length ac] 62 135 62 25
  refine bodyPost_ret (results_cell_row rfl _ _ (w.heap.size + 1 + 1) 62 #[.slice (some ⟨g, 0, none⟩) 2 2, .int .i64 term, .int .i64 ((j : Int) + 1), .bool both, .slice V xs.length vc, .slice D ds.length dc] (0, 0) _ rfl hA.2.2.2.1 Tryz.underlying62 rfl (by kernel_rfl)) rfl ?_
  exact ⟨_, _, _, _, _, _, _, _, _, _, _, _, rfl, HWI.out.bel hA.1, Turn.of_bel hA.1⟩
 | true =>
  go_enter Tryz.func108, Tryz.ntmps108
  have g_y := HJ.out.blk.lt
  obtain ⟨g_0, g_1, g_2, g_3, g_4⟩ := cells2_at HJ.out.blk hj
  dsimp only at g_0 g_1 g_2 g_3 g_4
  have g_y1 : g < w.heap.size + 1 := by omega
  have g_y2 : g < w.heap.size + 1 + 1 := by omega
  have g_n0 : ¬ g = w.heap.size := by omega
  have g_n1 : ¬ g = w.heap.size + 1 := by omega
  have g_n2 : ¬ g = w.heap.size + 1 + 1 := by omega
  go_wp2
  clear g_0 g_1 g_2 g_3 g_4 g_y g_y1 g_y2 g_n0 g_n1 g_n2
  obtain ⟨hW, hB, hE, hR, hN⟩ := allocs4 w #[.slice (some ⟨g, 0, none⟩) 2 2, .int .i64 term, .int .i64 ((j : Int) + 1), .bool both, .slice V xs.length vc, .slice D ds.length dc] #[.int .i64 9, .int .i64 ea, .int .i64 eo.kind, .string eo.name, .string eo.dest, .int .i64 eo.n, .string eo.text] zW #[.bool true, .int .i64 ta, .bool al, .bool aa, .slice A xa.length ac] 62 135 62 25
  generalize ((((w.alloc (.cells #[.slice (some ⟨g, 0, none⟩) 2 2, .int .i64 term, .int .i64 ((j : Int) + 1), .bool both, .slice V xs.length vc, .slice D ds.length dc] 62)).alloc (.cells #[.int .i64 9, .int .i64 ea, .int .i64 eo.kind, .string eo.name, .string eo.dest, .int .i64 eo.n, .string eo.text] 135)).alloc (.cells zW 62)).alloc (.cells #[.bool true, .int .i64 ta, .bool al, .bool aa, .slice A xa.length ac] 25)) = W1 at hW hB hE hR hN ⊢
  have HB := Lib.hid hB
  have HR := Lib.hid hR
  have HN := Lib.hid hN
  have HI := Lib.hid ((HWI.out.bel hW).bel bel_drew)
  have HKJ := Lib.hid ((HJ.out.bel hW).bel bel_drew)
  have HT := Lib.hid (Turn.of_bel (base := base) hW)
  have HWD : Hid (Bel w W1.drew) := Lib.hid (hW.tr bel_drew)
  have hrl := hN.lt
  clear hW hB hE hR hN
  have hsend := Lib.hid (fun (W : World) (E4 : Option Addr) (f4 : Nat) (hn : OwnM W base (.slice V xs.length vc) xs) (hs : base ≤ W.heap.size) => (l22Send_c (x := ⟨⟨3, 3 - ((j : Int) + 1), ta, xa.length, noO, xa⟩, E4, f4⟩) hn hs HWI.out.o.many : Calls Tryz.prog 125 #[.agg #[.slice (some ⟨g, 0, none⟩) 2 2, .int .i64 term, .int .i64 ((j : Int) + 1), .bool both, .slice V xs.length vc, .slice D ds.length dc], .agg #[.int .i64 3, .int .i64 (3 - ((j : Int) + 1)), .int .i64 ta, .int .i64 xa.length, .int .i64 0, .string ⟨#[]⟩, .string ⟨#[]⟩, .int .i64 0, .string ⟨#[]⟩, .slice E4 xa.length f4]] W (SendP base W (some ⟨g, 0, none⟩) D 2 2 ds.length dc term ((j : Int) + 1) both xs ⟨⟨3, 3 - ((j : Int) + 1), ta, xa.length, noO, xa⟩, E4, f4⟩ (.slice V xs.length vc))))
  refine start_ (n := 14) (S := fun w' => w'.cell? ⟨w.heap.size, 0, none⟩ = some (.slice (some ⟨g, 0, none⟩) 2 2) ∧ w'.cell? ⟨w.heap.size, 1, none⟩ = some (.int .i64 term) ∧ w'.cell? ⟨w.heap.size, 2, none⟩ = some (.int .i64 ((j : Int) + 1)) ∧ w'.cell? ⟨w.heap.size, 3, none⟩ = some (.bool both) ∧ w'.cell? ⟨w.heap.size, 4, none⟩ = some (.slice V xs.length vc) ∧ w'.cell? ⟨w.heap.size, 5, none⟩ = some (.slice D ds.length dc) ∧ w'.cell? ⟨w.heap.size + 1 + 1 + 1, 1, none⟩ = some (.int .i64 ta) ∧ w'.cell? ⟨w.heap.size + 1 + 1 + 1, 4, none⟩ = some (.slice A xa.length ac)) (ds := [12, 13]) #[F, F, F, F, F, F, F, F, F, F, F, F, F, F] (by kernel_rfl) rfl rfl ⟨(blkn (HB.out.bel bel_drew) 0 _ rfl), (blkn (HB.out.bel bel_drew) 1 _ rfl), (blkn (HB.out.bel bel_drew) 2 _ rfl), (blkn (HB.out.bel bel_drew) 3 _ rfl), (blkn (HB.out.bel bel_drew) 4 _ rfl), (blkn (HB.out.bel bel_drew) 5 _ rfl), (blkn (HN.out.bel bel_drew) 1 _ rfl), (blkn (HN.out.bel bel_drew) 4 _ rfl)⟩ (fun hHeld => ?_)
  refine py 1 (some 92) #[F, T, F, F, F, F, F, F, F, F, F, F, F, F] ?_
  refine py 2 (some 93) #[F, T, T, F, F, F, F, F, F, F, F, F, F, F] ?_
  refine py 4 (some 95) #[F, T, T, F, T, F, F, F, F, F, F, F, F, F] ?_
  refine py 8 (some 99) #[F, T, T, F, T, F, F, F, T, F, F, F, F, F] ?_
  refine ty 0 (some 91) #[T, T, T, F, T, F, F, F, T, F, F, F, F, F] (hS := hHeld) (hz := by rintro w' ⟨s0, s1, s2, s3, s4, s5, s6, s7⟩; go_simp; with_reducible rfl) (h := ?_)
  refine ty 3 (some 94) #[T, T, T, T, T, F, F, F, T, F, F, F, F, F] (hS := hHeld) (hz := by rintro w' ⟨s0, s1, s2, s3, s4, s5, s6, s7⟩; go_simp; with_reducible rfl) (h := ?_)
  refine ty 5 (some 96) #[T, T, T, T, T, T, F, F, T, F, F, F, F, F] (hS := hHeld) (hz := by rintro w' ⟨s0, s1, s2, s3, s4, s5, s6, s7⟩; go_simp; with_reducible rfl) (h := ?_)
  refine py 6 (some 97) #[T, T, T, T, T, T, T, F, T, F, F, F, F, F] ?_
  refine ty 9 (some 100) #[T, T, T, T, T, T, T, F, T, T, F, F, F, F] (hS := hHeld) (hz := by rintro w' ⟨s0, s1, s2, s3, s4, s5, s6, s7⟩; go_simp; with_reducible rfl) (h := ?_)
  refine ox 7 (some 98) #[T, T, T, T, T, T, T, T, T, T, F, F, F, F] fun K hK => ?_
  refine vx ?_
  have hbE : Bel W1.drew (W1.alloc (.cells #[] 27)).drew := bel_alloc (Below.refl _ _) _
  have HBE := Lib.hid hbE
  clear hbE
  refine hK.out _ _ ⟨(blkn ((HB.out.bel bel_drew).bel HBE.out) 0 _ rfl), (blkn ((HB.out.bel bel_drew).bel HBE.out) 1 _ rfl), (blkn ((HB.out.bel bel_drew).bel HBE.out) 2 _ rfl), (blkn ((HB.out.bel bel_drew).bel HBE.out) 3 _ rfl), (blkn ((HB.out.bel bel_drew).bel HBE.out) 4 _ rfl), (blkn ((HB.out.bel bel_drew).bel HBE.out) 5 _ rfl), (blkn ((HN.out.bel bel_drew).bel HBE.out) 1 _ rfl), (blkn ((HN.out.bel bel_drew).bel HBE.out) 4 _ rfl)⟩ (fun hHeld => ?_)
  clear hK K
  refine nox 98 (h := ?_)
  refine ox 10 (some 101) #[T, T, T, T, T, T, T, T, T, T, T, F, F, F] fun K hK => ?_
  refine Kd.R_append_rows_step kOp (w0 := W1.drew) W1.drew.heap.size (by rfl) (.tmp 98) (.tmp 100) 23 27 (.agg #[.int .i64 0, .string ⟨#[]⟩, .string ⟨#[]⟩, .int .i64 0, .string ⟨#[]⟩]) 64 rfl Tryz.underlying23 info_opR rfl (by decide) (by decide) _ [] xa _ _ _ (fun _ => True) (fun _ => False) rfl rfl (R_emptyO W1.drew W1.drew.heap.size (Nat.le_refl _)) (kOp_keep HKJ.out.o.oa.own.reads2 HBE.out) (fun x cs h => by obtain rfl := kOp_open h; exact kOp_mkM _ _ _ x) (fun _ h => h.elim) (fun _ _ => trivial) ?a2 ?a3 ?a4 ?_
  case a2 => exact HBE.out
  case a3 => exact Below.size HBE.out
  case a4 => simp; omega
  intro v1 w4 ho hb hg hat
  have HB4 : Hid (Bel W1.drew w4) := Lib.hid hb
  have hO4 : OwnO w4 W1.drew.heap.size v1 xa := ownO_of_R ho
  obtain ⟨E4, f4, rfl, -, -⟩ := hO4.reads
  have HO4 := Lib.hid hO4
  clear ho hb hg hat hO4
  refine hK.out _ _ ⟨(blkn ((HB.out.bel bel_drew).bel HB4.out) 0 _ rfl), (blkn ((HB.out.bel bel_drew).bel HB4.out) 1 _ rfl), (blkn ((HB.out.bel bel_drew).bel HB4.out) 2 _ rfl), (blkn ((HB.out.bel bel_drew).bel HB4.out) 3 _ rfl), (blkn ((HB.out.bel bel_drew).bel HB4.out) 4 _ rfl), (blkn ((HB.out.bel bel_drew).bel HB4.out) 5 _ rfl), (blkn ((HN.out.bel bel_drew).bel HB4.out) 1 _ rfl), (blkn ((HN.out.bel bel_drew).bel HB4.out) 4 _ rfl)⟩ (fun hHeld => ?_)
  clear hK K
  refine nox 101 (h := ?_)
  refine py 11 (some 102) #[T, T, T, T, T, T, T, T, T, T, T, T, F, F] ?_
  refine lx 12 (some 103) #[T, T, T, T, T, T, T, T, T, T, T, T, T, F] fun K hK => ?_
  refine gox Tryz.func125 #[.agg #[.slice (some ⟨g, 0, none⟩) 2 2, .int .i64 term, .int .i64 ((j : Int) + 1), .bool both, .slice V xs.length vc, .slice D ds.length dc], .agg #[.int .i64 3, .int .i64 (3 - ((j : Int) + 1)), .int .i64 ta, .int .i64 xa.length, .int .i64 0, .string ⟨#[]⟩, .string ⟨#[]⟩, .int .i64 0, .string ⟨#[]⟩, .slice E4 xa.length f4]] ?_
  with_reducible refine (hsend.out w4 E4 f4 (HI.out.o.nets.bel HB4.out) (Nat.le_trans (Nat.le_trans HBS.out (Below.size HWD.out)) (Below.size HB4.out))).mono ?_
  rintro e w8 ⟨E8, f8, ys, rfl, hy, hn8, hg8⟩
  have hI4 := HI.out.bel HB4.out
  have hLK : LOk w4 base ⟨⟨3, 3 - ((j : Int) + 1), ta, xa.length, noO, xa⟩, E4, f4⟩ := ⟨(OwnO.tail HO4.out).lower (Nat.le_trans HBS.out (Below.size HWD.out)), HJ.out.o.oa.ops, smallO_no, HJ.out.o.oa.run, hol2, fun e => by simp at e, HJ.out.o.oa.len⟩
  have hX : ∀ k, (Value.slice E4 xa.length f4).ownBlock = some k → W1.drew.heap.size ≤ k := fun k hk => own_base HO4.out k hk
  have hO8 := hI4.o.send hLK (Apt.new HI.out.o.oa.own hX) (Apt.new HI.out.o.ob.own hX) (Apt.new HI.out.o.done hX) hy hn8 hg8
  have HR8 := Lib.hid (((HR.out.bel bel_drew).bel HB4.out).grown hg8 (own_neM hI4.o.nets ((HR.out.bel bel_drew).bel HB4.out) (by decide)))
  have HI8 := Lib.hid (WI.mk (hI4.blk.grown hg8 (own_neM hI4.o.nets hI4.blk (by decide))) hI4.ge hO8 hI4.lead hI4.term)
  have HT8 : Hid (Turn base w w8) := Lib.hid ((Turn.of_bel (HWD.out.tr HB4.out)).tr (Turn.grown hg8 (fun k hk => by obtain ⟨h1, h3, cs, h4⟩ := hI4.o.nets.block k hk; exact ⟨h1, cs, _, h4, .inr (.inr rfl)⟩)))
  clear hy hn8 hg8 hI4 hLK hX hO8
  obtain ⟨hr8_0, hr8_1, hr8_2, hr8_3, hr8_4, hr8_5, hr8_f0, hr8_f1, hr8_f2, hr8_f3, hr8_f4, hr8_f5, hr8_y⟩ := k6f HR8.out
  refine ⟨_, rfl, ?_⟩
  refine hK.out _ _ ?_
  clear hK K
  refine nox 103 (h := ?_)
  refine lx 13 none #[T, T, T, T, T, T, T, T, T, T, T, T, T, T] fun K hK => ?_
  refine sx ?_
  refine hK.out _ _ ?_
  clear hK K
  refine done_ (by kernel_rfl) ?_
  go_wp2
  clear hr8_0 hr8_1 hr8_2 hr8_3 hr8_4 hr8_5 hr8_f0 hr8_f1 hr8_f2 hr8_f3 hr8_f4 hr8_f5 hr8_y
  have hR3 := HR8.out.sets [.slice (some ⟨g, 0, none⟩) 2 2, .int .i64 term, .int .i64 ((j : Int) + 1), .bool both, .slice E8 ys.length f8, .slice D ds.length dc] rfl
  refine bodyPost_ret (results_cell_row rfl _ _ (w.heap.size + 1 + 1) 62 #[.slice (some ⟨g, 0, none⟩) 2 2, .int .i64 term, .int .i64 ((j : Int) + 1), .bool both, .slice E8 ys.length f8, .slice D ds.length dc] (0, 0) _ rfl hR3 Tryz.underlying62 rfl (by kernel_rfl)) rfl ?_
  exact ⟨_, _, _, _, _, _, _, _, _, _, _, _, rfl, WI.sets (HI8.out) HR8.out (by decide) (by decide) (by decide) [.slice (some ⟨g, 0, none⟩) 2 2, .int .i64 term, .int .i64 ((j : Int) + 1), .bool both, .slice E8 ys.length f8, .slice D ds.length dc] 0, Turn.new (HT8.out) (by omega) [.slice (some ⟨g, 0, none⟩) 2 2, .int .i64 term, .int .i64 ((j : Int) + 1), .bool both, .slice E8 ys.length f8, .slice D ds.length dc] 0⟩
theorem l22Do_no (h : WI w base g a b term lead (.slice V xs.length vc) xs (.slice D ds.length dc) ds) (hbase : base ≤ w.heap.size) (hso : SmallO eo) (n1 : ¬ ek = 1) (n2 : ¬ ek = 2) (n3 : ¬ ek = 3) (n4 : ¬ ek = 4) (n5 : ¬ ek = 5) (n6 : ¬ ek = 6) (n7 : ¬ ek = 7) (n8 : ¬ ek = 8) (n9 : ¬ ek = 9) :
  Calls Tryz.prog 108 #[.agg #[.slice (some ⟨g, 0, none⟩) 2 2, .int .i64 term, .int .i64 lead, .bool both, .slice V xs.length vc, .slice D ds.length dc], .agg #[.int .i64 ek, .int .i64 ea, .int .i64 eo.kind, .string eo.name, .string eo.dest, .int .i64 eo.n, .string eo.text]] w (WRes base w) := by
 have HWI := Lib.hid h
 have HBS := Lib.hid hbase
 have HSO := Lib.hid hso
 have hgl := h.blk.lt
 have hw3 : wrap64 (3 - lead) = 3 - lead := by have := h.lead; unfold wrap64; omega
 clear h hbase hso
 have d1 : (ek == 1) = false := by simp [n1]
 have d2 : (ek == 2) = false := by simp [n2]
 have d3 : (ek == 3) = false := by simp [n3]
 have d4 : (ek == 4) = false := by simp [n4]
 have d5 : (ek == 5) = false := by simp [n5]
 have d6 : (ek == 6) = false := by simp [n6]
 have d7 : (ek == 7) = false := by simp [n7]
 have d8 : (ek == 8) = false := by simp [n8]
 have d9 : (ek == 9) = false := by simp [n9]
 go_enter Tryz.func108, Tryz.ntmps108
 go_wp2
 have hA := allocs3 w (wC g term lead both V xs vc D ds dc) #[.int .i64 ek, .int .i64 ea, .int .i64 eo.kind, .string eo.name, .string eo.dest, .int .i64 eo.n, .string eo.text] (wC g term lead both V xs vc D ds dc) 62 135 62
 refine bodyPost_ret (results_cell_row rfl _ _ (w.heap.size + 1 + 1) 62 (wC g term lead both V xs vc D ds dc) (0, 0) _ rfl hA.2.2.2 Tryz.underlying62 rfl (by kernel_rfl)) rfl ?_
 exact ⟨_, _, _, _, _, _, _, _, _, _, _, _, rfl, HWI.out.bel hA.1, Turn.of_bel hA.1⟩
theorem l22Do_c (h : WI w base g a b term lead (.slice V xs.length vc) xs (.slice D ds.length dc) ds) (hbase : base ≤ w.heap.size) (hso : SmallO eo) :
  Calls Tryz.prog 108 #[.agg #[.slice (some ⟨g, 0, none⟩) 2 2, .int .i64 term, .int .i64 lead, .bool both, .slice V xs.length vc, .slice D ds.length dc], .agg #[.int .i64 ek, .int .i64 ea, .int .i64 eo.kind, .string eo.name, .string eo.dest, .int .i64 eo.n, .string eo.text]] w (WRes base w) := by
 by_cases n1 : ek = 1
 ·subst n1; exact l22Do_k1 h hbase hso
 by_cases n2 : ek = 2
 ·subst n2; exact l22Do_k2 h hbase hso
 by_cases n3 : ek = 3
 ·subst n3; exact l22Do_k3 h hbase hso
 by_cases n4 : ek = 4
 ·subst n4; exact l22Do_k4 h hbase hso
 by_cases n5 : ek = 5
 ·subst n5; exact l22Do_k5 h hbase hso
 by_cases n6 : ek = 6
 ·subst n6; exact l22Do_k6 h hbase hso
 by_cases n7 : ek = 7
 ·subst n7; exact l22Do_k7 h hbase hso
 by_cases n8 : ek = 8
 ·subst n8; exact l22Do_k8 h hbase hso
 by_cases n9 : ek = 9
 ·subst n9; exact l22Do_k9 h hbase hso
 exact l22Do_no h hbase hso n1 n2 n3 n4 n5 n6 n7 n8 n9
end
end Go.Proofs.YtljfoglilggkjaaGreat

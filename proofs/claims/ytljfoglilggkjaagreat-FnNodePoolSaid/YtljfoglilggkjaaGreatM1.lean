/- Contracts of the program's and the reference's functions, and the plain laws behind them: part 1 of 13. -/
import Derived.Below
import Derived.Deep.Draws
import Derived.Deep.AppendLies
import Derived.Maps.AppendAt
import Derived.OwnWalk
import Derived.Laws.BytesArg
import Derived.Laws.MakeOwn
import Derived.Laws.OwnMore
import Derived.Deep.OwnRows
import Derived.Tactics
import Derived.Lib.ConvBytes
import Derived.Laws.Slices
import Derived.WalkKit
import Derived.KernelRfl
import Derived.RowKit3
import Derived.Deep.LoopGhost
import Derived.Deep.QuietTactic
import Derived.BigQuiet
import Derived.WideLaws
import Derived.Deep.DeepCutAuto
import Derived.Deep.CutBlock
import Derived.Deep.RegionHeld3
import Derived.Laws.Rows
import Derived.Lib.AppendStr
import Derived.ArgAppend
import Derived.Laws.IdiomCopy
import Derived.RowKit
import Derived.Test.YtljfoglilggkjaaGreatProg
import Derived.StillTailTactics
import Derived.Deep.RegionWith
import Derived.Deep.DeepFit
import Derived.Outline
import Derived.Says
import Derived.Lib.Hide
import Derived.WalkLawsBesides
import Derived.WalkSpells
set_option linter.unusedVariables false
set_option linter.unusedSimpArgs false
namespace Go.Proofs.YtljfoglilggkjaaGreat
abbrev T : Bool := true
abbrev F : Bool := false
theorem lA {α : Type} (l : List α) (i : Nat) (a : α) : l.toArray.setIfInBounds i a = (l.set i a).toArray := List.setIfInBounds_toArray l i a
theorem lB {α : Type} (b a : α) (l : List α) : (b :: l).set 0 a = a :: l := rfl
theorem lC {α : Type} (b a : α) (l : List α) (n : Nat) : (b :: l).set (n + 1) a = b :: l.set n a := rfl
end Go.Proofs.YtljfoglilggkjaaGreat
set_option maxHeartbeats 64000000
set_option maxRecDepth 10000
set_option linter.unusedVariables false
set_option linter.unusedSimpArgs false
namespace Go.Proofs.YtljfoglilggkjaaGreatW.PrintWords
open Go.RowKit
structure Aside0 (p : Prop) : Prop where mk :: (out : p)
structure Drawn0 (w w' : World) : Prop where mk :: (out : ∃ n, w' = w.drewN n)
theorem Drawn0.refl (w : World) : Drawn0 w w := ⟨⟨0, rfl⟩⟩
theorem Drawn0.step {w w' : World} (h : Drawn0 w w') (n : Nat) : Drawn0 w (w'.drewN n) := by
 obtain ⟨m, rfl⟩ := h
 exact ⟨⟨m + n, World.drewN_drewN ..⟩⟩
theorem Drawn0.grown {w w' : World} (h : Drawn0 w w') : Grown w w' := by
 obtain ⟨n, rfl⟩ := h
 induction n with
 | zero => exact Grown.refl _
 | succ n ih => rw [← World.drew_drewN]; exact Grown.drew ih
theorem Drawn0.below {w w' : World} (h : Drawn0 w w') : Below w.heap.size w w' := by
 obtain ⟨n, rfl⟩ := h
 induction n with
 | zero => exact Below.refl _ _
 | succ n ih => rw [← World.drew_drewN]; exact ih.drew
def rd (xs : List Int) (i : Int) : Int := xs.getD i.toNat 0
def bt (s : ByteArray) (i : Int) : Int := if h : i.toNat < s.size then ((s[i.toNat]'h).toNat : Int) else 0
def nums (k : IntKind) (xs : List Int) : List Value := xs.map fun x => .int k x
def bools (xs : List Bool) : List Value := xs.map fun x => .bool x
def pw_strs (xs : List ByteArray) : List Value := xs.map fun x => .string x
theorem below_alloc {w W : World} (h : Below w.heap.size w W) (o : Obj) : Below w.heap.size w (W.alloc o) := h.alloc h.size o
theorem below_drew {B : Nat} {w W : World} (h : Below B w W) : Below B w W.drew := ⟨h.os, h.tape, h.output, h.size, h.block⟩
theorem grown_of_below {w w1 : World} (h : Below w.heap.size w w1) (row : Option Nat) : w.grownBy w1 row := ⟨h.os, h.tape, h.output, h.size, fun i hi _ => h.block i hi⟩
theorem pw_cell_below {w w1 : World} (h : Below w.heap.size w w1) {a : Addr} {v : Value} (hc : w.cell? a = some v) : w1.cell? a = some v := (h.cell (World.block_lt_of_cell? w a hc)).trans hc
def ReadsInt (w : World) (k : IntKind) (A : Option Addr) (n : Nat) (xs : List Int) : Prop :=
 xs.length = n ∧ n ≤ 9223372036854775807 ∧ (0 < n → ∃ ad, A = some ad ∧ ∀ j, j < n → w.cell? (ad.add j) = some (.int k (xs.getD j 0)))
theorem ReadsInt.at_ {w : World} {k : IntKind} {A : Option Addr} {n : Nat} {xs : List Int} (h : ReadsInt w k A n xs) (i : Int) (h0 : 0 ≤ i) (h1 : i < n) : ∃ ad, A = some ad ∧ w.cell? (ad.add i.toNat) = some (.int k (rd xs i)) := by
 obtain ⟨ad, e, hc⟩ := h.2.2 (by omega)
 exact ⟨ad, e, hc _ (by omega)⟩
theorem ReadsInt.below {w w1 : World} {k : IntKind} {A : Option Addr} {n : Nat} {xs : List Int} (h : ReadsInt w k A n xs) (hb : Below w.heap.size w w1) : ReadsInt w1 k A n xs :=
 ⟨h.1, h.2.1, fun hn => by
  obtain ⟨ad, e, hc⟩ := h.2.2 hn
  exact ⟨ad, e, fun j hj => pw_cell_below hb (hc j hj)⟩⟩
theorem own_base {w : World} {base : Nat} {e : TypeId} {size n : Nat} {v : Value} {xs : List Value} (h : w.ownsRow base e size v n xs) (k : Nat) (hk : v.ownBlock = some k) : base ≤ k := by
 rcases h.2 with ⟨rfl, _⟩ | ⟨g, cap, cur, rfl, hb, _⟩
 ·simp [Value.ownBlock] at hk
 ·have : g = k := by simpa [Value.ownBlock] using hk
  omega
theorem own_lt {w : World} {base : Nat} {e : TypeId} {size n : Nat} {v : Value} {xs : List Value} (h : w.ownsRow base e size v n xs) (k : Nat) (hk : v.ownBlock = some k) : k < w.heap.size := by
 rcases h.2 with ⟨rfl, _⟩ | ⟨g, cap, cur, rfl, hb, hh, _⟩
 ·simp [Value.ownBlock] at hk
 ·have : g = k := by simpa [Value.ownBlock] using hk
  subst this
  exact (Array.getElem?_eq_some_iff.1 hh).1
theorem pw_own_below {w w1 : World} {base : Nat} {e : TypeId} {size n : Nat} {v : Value} {xs : List Value} (h : w.ownsRow base e size v n xs) (hb : Below w.heap.size w w1) : w1.ownsRow base e size v n xs :=
 h.kept (grown_of_below hb none) (by cases v.ownBlock <;> simp)
theorem own_other {w w1 : World} {base : Nat} {e : TypeId} {size n : Nat} {v : Value} {xs : List Value} (h : w.ownsRow base e size v n xs) {row : Option Nat} (hg : w.grownBy w1 row) (hne : v.ownBlock = none ∨ v.ownBlock ≠ row) : w1.ownsRow base e size v n xs := h.kept hg hne
theorem own_slice {w : World} {base n : Nat} {e : TypeId} {size : Nat} {v : Value} {xs : List Value} (h : w.ownsRow base e size v n xs) : ∃ A c, v = .slice A n c := by
 rcases h.2 with ⟨rfl, rfl⟩ | ⟨g, cap, cur, rfl, _⟩
 ·exact ⟨none, 0, rfl⟩
 ·exact ⟨_, cap, rfl⟩
section
variable {P : Program} {ops : Array Oper} {rest : List Oper} {o : Oper} {a : Act} {Q : Exit → Act → World → Prop}
end
section
variable {P : Program}
end
section
variable {P : Program} {ops : Array Oper} {rest : List Oper} {o : Oper} {a : Act} {Q : Exit → Act → World → Prop}
end
def bytesOf (s : ByteArray) : List Int := s.data.toList.map fun b => (b.toNat : Int)
theorem ReadsInt.take_ {w : World} {k : IntKind} {A : Option Addr} {n : Nat} {xs : List Int} (h : ReadsInt w k A n xs) (i : Nat) (hi : i ≤ n) : ReadsInt w k A i (xs.take i) := by
 refine ⟨by rw [List.length_take, h.1]; omega, by have := h.2.1; omega, fun hp => ?_⟩
 obtain ⟨ad, e, hc⟩ := h.2.2 (by omega)
 refine ⟨ad, e, fun j hj => ?_⟩
 rw [hc j (by omega)]
 simp [List.getD_eq_getElem?_getD, hj]
def LeO {α : Type} (a b : Option α) : Prop := ∀ r, a = some r → b = some r
theorem LeO.refl {α : Type} (a : Option α) : LeO a a := fun _ h => h
theorem LeO.none {α : Type} (b : Option α) : LeO Option.none b := fun _ h => by cases h
theorem LeO.trans {α : Type} {a b c : Option α} (h : LeO a b) (k : LeO b c) : LeO a c := fun r hr => k r (h r hr)
theorem LeO.bind {α β : Type} {a a' : Option α} {f f' : α → Option β} (h : LeO a a') (k : ∀ x, LeO (f x) (f' x)) : LeO (a.bind f) (a'.bind f') := by
 intro r hr
 obtain ⟨x, hx, hf⟩ := Option.bind_eq_some_iff.1 hr
 exact Option.bind_eq_some_iff.2 ⟨x, h x hx, k x r hf⟩
theorem LeO.map {α β : Type} {a a' : Option α} (f : α → β) (h : LeO a a') : LeO (a.map f) (a'.map f) := by
 intro r hr
 obtain ⟨x, hx, hf⟩ := Option.map_eq_some_iff.1 hr
 exact Option.map_eq_some_iff.2 ⟨x, h x hx, hf⟩
theorem more_rounds {α : Type} {g : Nat → Option α} (h : ∀ k, LeO (g k) (g (k + 1))) (k : Nat) : ∀ j, LeO (g k) (g (k + j))
 | 0 => LeO.refl _
 | j + 1 => (more_rounds h k j).trans (h (k + j))
theorem at_rounds {α : Type} {g : Nat → Option α} (h : ∀ k, LeO (g k) (g (k + 1))) {k k' : Nat} (hk : k ≤ k') {r : α} (hr : g k = some r) : g k' = some r := by
 have := more_rounds h k (k' - k) r hr
 rwa [Nat.add_sub_cancel' hk] at this
theorem together {α β : Type} {g : Nat → Option α} {f : Nat → Option β} (hg : ∀ k, LeO (g k) (g (k + 1))) (hf : ∀ k, LeO (f k) (f (k + 1))) {r : α} {q : β} (h : ∃ k, g k = some r) (h' : ∃ k, f k = some q) : ∃ k, g k = some r ∧ f k = some q := by
 obtain ⟨k, hk⟩ := h
 obtain ⟨k', hk'⟩ := h'
 exact ⟨max k k', at_rounds hg (Nat.le_max_left _ _) hk, at_rounds hf (Nat.le_max_right _ _) hk'⟩
def Reps {α : Type} (R : α → List Value → Prop) (size : Nat) (ps : List α) (cs : List Value) : Prop :=
 cs.length = ps.length * size ∧ ∀ j p, ps[j]? = some p → R p ((cs.drop (j * size)).take size)
theorem Reps.none {α : Type} (R : α → List Value → Prop) (size : Nat) : Reps R size [] [] := ⟨by simp, fun j p h => by simp at h⟩
theorem Reps.snoc {α : Type} {R : α → List Value → Prop} {size : Nat} {ps : List α} {cs c : List Value} {p : α} (h : Reps R size ps cs) (hp : R p c) (hc : c.length = size) : Reps R size (ps ++ [p]) (cs ++ c) := by
 refine ⟨by rw [List.length_append, h.1, hc, List.length_append, List.length_singleton, Nat.add_mul, Nat.one_mul], fun j q hq => ?_⟩
 rcases Nat.lt_or_ge j ps.length with hj | hj
 ·rw [List.getElem?_append_left hj] at hq
  have h1 : j * size + size ≤ cs.length := by rw [h.1, ← Nat.succ_mul]; exact Nat.mul_le_mul_right _ hj
  have h2 := h.2 j q hq
  rw [List.drop_append_of_le_length (by omega), List.take_append_of_le_length (by rw [List.length_drop]; omega)]
  exact h2
 ·have hj' : j = ps.length := by
   have := (List.getElem?_eq_some_iff.1 hq).1
   rw [List.length_append, List.length_singleton] at this
   omega
  subst hj'
  have hq' : p = q := by simpa using hq
  subst hq'
  rw [← h.1, List.drop_left, ← hc, List.take_length]
  exact hp
theorem Reps.imp_ {α : Type} {R R' : α → List Value → Prop} {size : Nat} {ps : List α} {cs : List Value} (h : Reps R size ps cs) (hR : ∀ p c, R p c → R' p c) : Reps R' size ps cs := ⟨h.1, fun j p hj => hR _ _ (h.2 j p hj)⟩
def ReadsRow {α : Type} (R : α → List Value → Prop) (size : Nat) (w : World) (A : Option Addr) (n : Nat) (ps : List α) : Prop :=
 ps.length = n ∧ n ≤ 9223372036854775807 ∧ (0 < n → ∃ ad, A = some ad ∧ ∀ j p, ps[j]? = some p → ∃ c, c.length = size ∧ R p c ∧ ∀ i u, c[i]? = some u → w.cell? (ad.add (j * size + i)) = some u)
theorem ReadsRow.get_ {α : Type} {R : α → List Value → Prop} {size : Nat} {w : World} {A : Option Addr} {n : Nat} {ps : List α} (h : ReadsRow R size w A n ps) (d : α) (i : Int) (h0 : 0 ≤ i) (h1 : i < n) :
  ∃ ad c, A = some ad ∧ c.length = size ∧ R (ps.getD i.toNat d) c ∧ ∀ j u, c[j]? = some u → w.cell? (ad.add (i.toNat * size + j)) = some u := by
 obtain ⟨ad, e, hc⟩ := h.2.2 (by omega)
 have hl : i.toNat < ps.length := by have := h.1; omega
 obtain ⟨c, hs, hr, hcell⟩ := hc i.toNat _ (List.getElem?_eq_getElem hl)
 refine ⟨ad, c, e, hs, ?_, hcell⟩
 rw [List.getD_eq_getElem?_getD, List.getElem?_eq_getElem hl]
 exact hr
theorem ReadsRow.imp_ {α : Type} {R R' : α → List Value → Prop} {size : Nat} {w w1 : World} {A : Option Addr} {n : Nat} {ps : List α} (h : ReadsRow R size w A n ps) (hb : Below w.heap.size w w1) (hR : ∀ p c, R p c → R' p c) : ReadsRow R' size w1 A n ps :=
 ⟨h.1, h.2.1, fun hn => by
  obtain ⟨ad, e, hc⟩ := h.2.2 hn
  refine ⟨ad, e, fun j p hj => ?_⟩
  obtain ⟨c, hs, hr, hcell⟩ := hc j p hj
  exact ⟨c, hs, hR _ _ hr, fun i u hu => pw_cell_below hb (hcell i u hu)⟩⟩
theorem own_reads_row {α : Type} {R : α → List Value → Prop} {w : World} {base n size : Nat} {e : TypeId} {v : Value} {ps : List α} {cs : List Value} (h : w.ownsRow base e size v n cs) (hR : Reps R size ps cs) (hn : ps.length = n) :
  ∃ A c, v = .slice A n c ∧ ReadsRow R size w A n ps := by
 rcases Nat.eq_zero_or_pos n with h0 | h0
 ·rcases h.2 with ⟨rfl, rfl⟩ | ⟨g, cap, cur, rfl, _⟩
  ·exact ⟨none, 0, rfl, hn, by omega, fun hp => absurd hp (by omega)⟩
  ·exact ⟨_, cap, rfl, hn, by omega, fun hp => absurd hp (by omega)⟩
 ·obtain ⟨g, cap, rfl, _, _⟩ := h.form h0
  have hm : n ≤ 9223372036854775807 := by
   rcases h.2 with ⟨_, h1⟩ | ⟨g', cap', cur, he, _, _, h1, h2, _⟩
   ·omega
   ·simp only [maxLen] at h2
    omega
  refine ⟨_, cap, rfl, hn, hm, fun _ => ⟨_, rfl, fun j p hj => ⟨(cs.drop (j * size)).take size, ?_, hR.2 j p hj, fun i u hu => ?_⟩⟩⟩
  ·have hjl := (List.getElem?_eq_some_iff.1 hj).1
   have h1 : j * size + size ≤ cs.length := by rw [hR.1, ← Nat.succ_mul]; exact Nat.mul_le_mul_right _ hjl
   rw [List.length_take, List.length_drop]
   omega
  ·refine h.cells (g := g) rfl _ u ?_
   rw [List.getElem?_take] at hu
   split at hu
   ·rw [List.getElem?_drop] at hu
    exact hu
   ·cases hu
theorem add_field (ad : Addr) (m j : Nat) (hj : 0 < j) : ad.add (m + j) = ⟨(ad.add m).block, (ad.add m).off + j, none⟩ := by
 unfold Addr.add
 by_cases hm : m = 0
 ·subst hm
  simp [Nat.ne_of_gt hj]
 ·simp [hm, Nat.add_assoc]
section
variable {P : Program} {ops : Array Oper} {rest : List Oper} {o : Oper} {a : Act} {Q : Exit → Act → World → Prop}
theorem print_append_cells {w0 W : World} (base : Nat) (hgd : o.guard = none) (s x : Operand) (t e : TypeId) (z : Value) (size bytes : Nat)
  (ho : o.op = .call { callee := .builtin .append, args := #[s, x], argTypes := #[t, t] })
  (ht : P.underlying t = some (.slice e)) (hinfo : (P.info? e).map (fun i => (i.zero, i.size, i.bytes)) = some (some z, size, bytes)) (hz : z.cells.size = size) (hs0 : 0 < size) (hb0 : 0 < bytes)
  (v : Value) (n : Nat) (xs ys : List Value) (hs : a.eval s = v) (hx : a.eval x = .slice (some ⟨W.heap.size, 0, none⟩) 1 1) (hys : ys.length = size) (h1 : ∀ u ∈ ys, u.oneCell' = true)
  (HO : W.ownsRow base e size v n xs) (HB : Below base w0 W) (hbase : base ≤ W.heap.size) (hl : (n + 1) * bytes ≤ 140737488355328)
  (h : ∀ v1 w1, w1.ownsRow base e size v1 (n + 1) (xs ++ ys) → Below base w0 w1 → W.grownBy w1 v.ownBlock → (v1.ownBlock = v.ownBlock ∨ ∃ b, v1.ownBlock = some b ∧ W.heap.size ≤ b) → wpList P ops Q rest (a.put o.dst v1) w1) :
  wpList P ops Q (o :: rest) a (W.alloc (.cells ys.toArray e)) := by
 obtain ⟨i0, hi, hzz⟩ := Option.map_eq_some_iff.1 hinfo
 simp only [Prod.mk.injEq] at hzz
 obtain ⟨hz0, hz1, hz2⟩ := hzz
 have hlen : n + 1 ≤ 140737488355328 := Nat.le_trans (Nat.le_mul_of_pos_right _ hb0) hl
 refine wpList_append_own_at (W.alloc (.cells ys.toArray e)) hgd s x t ho base e i0 z size bytes ht hi hz0 hz1 hz2 hz hs0 v n xs hs (HO.alloc _) ⟨W.heap.size, 0, none⟩ 1 1 ys hx (by rw [hys]; simp)
  (by simpa using World.news_of_block (cs := ys.toArray) (t := e) (fr := (0, 0)) (heap_alloc_new W (.cells ys.toArray e))) h1 (by simp only [maxLen]; omega) hl (by simp; omega) ?_
 intro v1 w1 hown hg _ hat
 refine h v1 w1 hown ((HB.alloc hbase _).grown hg (by simp; omega) (own_base HO)) (World.grownBy.trans (World.grownBy_alloc W _ _) hg) ?_
 rcases hat with hat | hat
 ·exact .inl hat
 ·exact .inr ⟨_, hat, by simp⟩
end
theorem own_ne {w : World} {base : Nat} {e t : TypeId} {size n g : Nat} {v : Value} {xs : List Value} {cs : Array Value} (h : w.ownsRow base e size v n xs) (hg : w.heap[g]? = some (.cells cs t (0, 0))) (hne : e ≠ t) : some g ≠ v.ownBlock := by
 rcases h.2 with ⟨rfl, _⟩ | ⟨g', cap, cur, rfl, _, hh, _⟩
 ·simp [Value.ownBlock]
 ·intro he
  have : g = g' := by simpa [Value.ownBlock] using he
  subst this
  rw [hg] at hh
  injection hh with hh
  injection hh with _ ht
  exact hne ht.symm
theorem own_setCell {w : World} {base : Nat} {e : TypeId} {size n : Nat} {v : Value} {xs : List Value} (h : w.ownsRow base e size v n xs) {p : Addr} (hne : some p.block ≠ v.ownBlock) (u : Value) : (w.setCell p u).ownsRow base e size v n xs := by
 obtain ⟨h1, h2⟩ := h
 refine ⟨h1, ?_⟩
 rcases h2 with h2 | ⟨g, cap, cur, rfl, hg, hh, r⟩
 ·exact .inl h2
 ·exact .inr ⟨g, cap, cur, rfl, hg, by rw [Below.heap_setCell _ _ _ _ (fun e => hne (by rw [e]; rfl))]; exact hh, r⟩
theorem blk_set {w : World} {g : Nat} {t : TypeId} {cs : Array Value} (h : w.heap[g]? = some (.cells cs t (0, 0))) (i : Nat) (u : Value) : (w.setCell ⟨g, i, none⟩ u).heap[g]? = some (.cells (cs.setIfInBounds i u) t (0, 0)) := by
 simp [World.setCell, Array.getElem?_modify, h]
theorem blk_lt {w : World} {g : Nat} {o : Obj} (h : w.heap[g]? = some o) : g < w.heap.size := (Array.getElem?_eq_some_iff.1 h).1
theorem blk_cell {w : World} {g : Nat} {t : TypeId} {cs : Array Value} (h : w.heap[g]? = some (.cells cs t (0, 0))) (i : Nat) : w.cell? ⟨g, i, none⟩ = cs[i]? := cell_of_row w g i cs t (0, 0) h
theorem blk_frozen {w : World} {g : Nat} {t : TypeId} {cs : Array Value} (h : w.heap[g]? = some (.cells cs t (0, 0))) (i : Nat) : w.frozen? ⟨g, i, none⟩ = false := by simp [World.frozen?, h]
def KeepBut (w w' : World) (g : Nat) (row : Option Nat) : Prop := w.heap.size ≤ w'.heap.size ∧ ∀ i, i < w.heap.size → i ≠ g → some i ≠ row → w'.heap[i]? = w.heap[i]?
theorem KeepBut.refl (w : World) (g : Nat) (row : Option Nat) : KeepBut w w g row := ⟨Nat.le_refl _, fun _ _ _ _ => rfl⟩
theorem KeepBut.trans {w w1 w2 : World} {g : Nat} {row row1 : Option Nat} (h : KeepBut w w1 g row) (k : KeepBut w1 w2 g row1) (hr : row1 = row ∨ ∃ b, row1 = some b ∧ w.heap.size ≤ b) : KeepBut w w2 g row :=
 ⟨Nat.le_trans h.1 k.1, fun i hi hg hn => by
  refine (k.2 i (Nat.lt_of_lt_of_le hi h.1) hg ?_).trans (h.2 i hi hg hn)
  rcases hr with rfl | ⟨b, rfl, hb⟩
  ·exact hn
  ·intro e
   injection e with e
   omega⟩
theorem KeepBut.blk {w w1 : World} {g g' : Nat} {row : Option Nat} {o : Obj} (h : KeepBut w w1 g row) (hb : w.heap[g']? = some o) (hg : g' ≠ g) (hr : some g' ≠ row) : w1.heap[g']? = some o := (h.2 g' (blk_lt hb) hg hr).trans hb
theorem KeepBut.own {w w1 : World} {g : Nat} {row : Option Nat} {base : Nat} {e : TypeId} {size n : Nat} {v : Value} {xs : List Value} (h : KeepBut w w1 g row) (ho : w.ownsRow base e size v n xs) (hg : v.ownBlock ≠ some g) (hr : v.ownBlock = none ∨ v.ownBlock ≠ row) : w1.ownsRow base e size v n xs := by
 obtain ⟨h1, h2⟩ := ho
 refine ⟨h1, ?_⟩
 rcases h2 with h2 | ⟨b, cap, cur, rfl, hb, hh, r⟩
 ·exact .inl h2
 ·refine .inr ⟨b, cap, cur, rfl, hb, h.blk hh ?_ ?_, r⟩
  ·intro e
   exact hg (by rw [← e]; rfl)
  ·rcases hr with hr | hr
   ·simp [Value.ownBlock] at hr
   ·exact hr
def Ev {α : Type} (g : Nat → Option α) (r : α) : Prop := ∃ K, ∀ k, K ≤ k → g k = some r
theorem Ev.of {α : Type} {g : Nat → Option α} {r : α} (hg : ∀ k, LeO (g k) (g (k + 1))) {k : Nat} (h : g k = some r) : Ev g r := ⟨k, fun _ hk => at_rounds hg hk h⟩
theorem Ev.now {α : Type} (r : α) : Ev (fun _ => some r) r := ⟨0, fun _ _ => rfl⟩
theorem Ev.rounds {α : Type} {g : Nat → Option α} {r : α} (h : Ev g r) : ∃ k, g k = some r := by
 obtain ⟨K, h⟩ := h
 exact ⟨K, h K (Nat.le_refl _)⟩
theorem Ev.bind {α β : Type} {g : Nat → Option α} {f : Nat → α → Option β} {a : α} {r : β} (h : Ev g a) (k : Ev (fun n => f n a) r) : Ev (fun n => (g n).bind (f n)) r := by
 obtain ⟨K, h⟩ := h
 obtain ⟨K', k⟩ := k
 refine ⟨max K K', fun n hn => ?_⟩
 have h1 := h n (by omega)
 have h2 := k n (by omega)
 simp only [h1, Option.bind_some]
 exact h2
theorem Ev.step {α : Type} {g f : Nat → Option α} {r : α} (h : ∀ k, g (k + 1) = f k) (k : Ev f r) : Ev g r := by
 obtain ⟨K, k⟩ := k
 refine ⟨K + 1, fun n hn => ?_⟩
 obtain ⟨m, rfl⟩ : ∃ m, n = m + 1 := ⟨n - 1, by omega⟩
 rw [h]
 exact k m (by omega)
theorem Ev.congr {α : Type} {g f : Nat → Option α} {r : α} (h : ∀ k, g k = f k) (k : Ev f r) : Ev g r := by
 obtain ⟨K, k⟩ := k
 exact ⟨K, fun n hn => (h n).trans (k n hn)⟩
section
variable {P : Program} {ops : Array Oper} {o : Oper} {a : Act} {Q : Exit → Act → World → Prop} {K : Act → World → Prop}
end
theorem own_weaken {w : World} {base base' : Nat} {e : TypeId} {size n : Nat} {v : Value} {xs : List Value} (h : w.ownsRow base e size v n xs) (hb : base' ≤ base) : w.ownsRow base' e size v n xs := by
 obtain ⟨h1, h2⟩ := h
 refine ⟨h1, ?_⟩
 rcases h2 with h2 | ⟨g, cap, cur, rfl, hg, r⟩
 ·exact .inl h2
 ·exact .inr ⟨g, cap, cur, rfl, Nat.le_trans hb hg, r⟩
section
variable {α : Type} {enc : α → Value} {d : α}
def encs (enc : α → Value) (xs : List α) : List Value := xs.map enc
def rdOf (d : α) (xs : List α) (i : Int) : α := xs.getD i.toNat d
def ReadsOf (enc : α → Value) (d : α) (w : World) (A : Option Addr) (n : Nat) (xs : List α) : Prop :=
 xs.length = n ∧ n ≤ 9223372036854775807 ∧ (0 < n → ∃ ad, A = some ad ∧ ∀ j, j < n → w.cell? (ad.add j) = some (enc (xs.getD j d)))
theorem ReadsOf.at_ {w : World} {A : Option Addr} {n : Nat} {xs : List α} (h : ReadsOf enc d w A n xs) (i : Int) (h0 : 0 ≤ i) (h1 : i < n) : ∃ ad, A = some ad ∧ w.cell? (ad.add i.toNat) = some (enc (rdOf d xs i)) := by
 obtain ⟨ad, e, hc⟩ := h.2.2 (by omega)
 exact ⟨ad, e, hc _ (by omega)⟩
theorem ReadsOf.below {w w1 : World} {A : Option Addr} {n : Nat} {xs : List α} (h : ReadsOf enc d w A n xs) (hb : Below w.heap.size w w1) : ReadsOf enc d w1 A n xs :=
 ⟨h.1, h.2.1, fun hn => by
  obtain ⟨ad, e, hc⟩ := h.2.2 hn
  exact ⟨ad, e, fun j hj => pw_cell_below hb (hc j hj)⟩⟩
theorem ReadsOf.take_ {w : World} {A : Option Addr} {n : Nat} {xs : List α} (h : ReadsOf enc d w A n xs) (i : Nat) (hi : i ≤ n) : ReadsOf enc d w A i (xs.take i) := by
 refine ⟨by rw [List.length_take, h.1]; omega, by have := h.2.1; omega, fun hp => ?_⟩
 obtain ⟨ad, e, hc⟩ := h.2.2 (by omega)
 refine ⟨ad, e, fun j hj => ?_⟩
 rw [hc j (by omega)]
 simp [List.getD_eq_getElem?_getD, hj]
end
section
variable {α : Type} {P : Program} {ops : Array Oper} {rest : List Oper} {o : Oper} {a : Act} {Q : Exit → Act → World → Prop}
end
def NeRow (v v' : Value) : Prop := ∀ k, v.ownBlock = some k → v'.ownBlock ≠ some k
section
variable {P : Program}
theorem results_ct {fn : Func} {p u : Tmp} {ty : TypeId} (h : fn.results = #[.cell p ty, .tmp u]) (tmps : Array Value) (w : World) (g : Nat) (t : TypeId) (cs : Array Value) (fr : Nat × Nat) (d : TypeDesc)
  (hp : tmps.getD p undef = .pointer (some ⟨g, 0, none⟩)) (hg : w.heap[g]? = some (.cells cs t fr))
  (hu : P.underlying ty = some d) (hd : (match d with | .struct _ | .array _ _ => true | _ => false) = true) (hi : (P.info? ty).map (·.size) = some cs.size) :
  (results fn tmps).run P w = .ok (.tuple #[.agg cs, tmps.getD u undef]) w := by
 have hp' : tmps[p]?.getD undef = .pointer (some ⟨g, 0, none⟩) := by simpa using hp
 simp [results, h, hp', asAddr, run_loadVar_row w g t ty cs fr d hg hu hd hi]
theorem results_tc {fn : Func} {p u : Tmp} {ty : TypeId} (h : fn.results = #[.tmp u, .cell p ty]) (tmps : Array Value) (w : World) (g : Nat) (t : TypeId) (cs : Array Value) (fr : Nat × Nat) (d : TypeDesc)
  (hp : tmps.getD p undef = .pointer (some ⟨g, 0, none⟩)) (hg : w.heap[g]? = some (.cells cs t fr))
  (hu : P.underlying ty = some d) (hd : (match d with | .struct _ | .array _ _ => true | _ => false) = true) (hi : (P.info? ty).map (·.size) = some cs.size) :
  (results fn tmps).run P w = .ok (.tuple #[tmps.getD u undef, .agg cs]) w := by
 have hp' : tmps[p]?.getD undef = .pointer (some ⟨g, 0, none⟩) := by simpa using hp
 simp [results, h, hp', asAddr, run_loadVar_row w g t ty cs fr d hg hu hd hi]
end
theorem own_le {w : World} {base n m c size : Nat} {e : TypeId} {A : Option Addr} {xs : List Value} (h : w.ownsRow base e size (.slice A m c) n xs) : m ≤ c := by
 rcases h.2 with ⟨he, _⟩ | ⟨g, cap, cur, he, _, _, hnc, _⟩
 ·injection he with _ h2 h3
  omega
 ·injection he with _ h2 h3
  omega
def OwnRow {α : Type} (R : α → List Value → Prop) (e : TypeId) (size : Nat) (w : World) (base : Nat) (v : Value) (ps : List α) : Prop :=
 ∃ inner, w.ownsRow base e size v ps.length inner ∧ Reps R size ps inner
section
variable {α : Type} {R R' : α → List Value → Prop} {e : TypeId} {size : Nat} {w w1 : World} {base : Nat} {v : Value} {ps : List α}
theorem OwnRow.imp_ (h : OwnRow R e size w base v ps) (hR : ∀ p c, R p c → R' p c) : OwnRow R' e size w base v ps := by
 obtain ⟨inner, ho, hr⟩ := h
 exact ⟨inner, ho, hr.imp_ hR⟩
theorem OwnRow.below (h : OwnRow R e size w base v ps) (hb : Below w.heap.size w w1) : OwnRow R e size w1 base v ps := by
 obtain ⟨inner, ho, hr⟩ := h
 exact ⟨inner, pw_own_below ho hb, hr⟩
theorem OwnRow.other (h : OwnRow R e size w base v ps) {row : Option Nat} (hg : w.grownBy w1 row) (hne : v.ownBlock = none ∨ v.ownBlock ≠ row) : OwnRow R e size w1 base v ps := by
 obtain ⟨inner, ho, hr⟩ := h
 exact ⟨inner, own_other ho hg hne, hr⟩
theorem OwnRow.keep (h : OwnRow R e size w base v ps) {g : Nat} {t : TypeId} {cells : Array Value} (hb : w.heap[g]? = some (.cells cells t (0, 0))) (ht : e ≠ t) (hk : KeepBut w w1 g none) : OwnRow R e size w1 base v ps := by
 obtain ⟨inner, ho, hr⟩ := h
 exact ⟨inner, hk.own ho (Ne.symm (own_ne ho hb ht)) (by cases v.ownBlock <;> simp), hr⟩
theorem OwnRow.lower (h : OwnRow R e size w base v ps) {base' : Nat} (hb : base' ≤ base) : OwnRow R e size w base' v ps := by
 obtain ⟨inner, ho, hr⟩ := h
 exact ⟨inner, own_weaken ho hb, hr⟩
theorem OwnRow.reads (h : OwnRow R e size w base v ps) : ∃ A c, v = .slice A ps.length c ∧ ps.length ≤ c ∧ ReadsRow R size w A ps.length ps := by
 obtain ⟨inner, ho, hr⟩ := h
 obtain ⟨A, c, rfl, hrow⟩ := own_reads_row ho hr rfl
 exact ⟨A, c, rfl, own_le ho, hrow⟩
end
section
variable {P : Program} {ops : Array Oper} {rest : List Oper} {o : Oper} {a : Act} {Q : Exit → Act → World → Prop} {α : Type} {R : α → List Value → Prop}
theorem OwnRow.append {w0 W : World} (base : Nat) (hgd : o.guard = none) (s x : Operand) (t e : TypeId) (z : Value) (size bytes : Nat)
  (ho : o.op = .call { callee := .builtin .append, args := #[s, x], argTypes := #[t, t] })
  (ht : P.underlying t = some (.slice e)) (hinfo : (P.info? e).map (fun i => (i.zero, i.size, i.bytes)) = some (some z, size, bytes)) (hz : z.cells.size = size) (hs0 : 0 < size) (hb0 : 0 < bytes)
  (v : Value) (ps : List α) (p : α) (cs : List Value) (hs : a.eval s = v) (hx : a.eval x = .slice (some ⟨W.heap.size, 0, none⟩) 1 1) (hp : R p cs) (hcs : cs.length = size) (h1 : ∀ u ∈ cs, u.oneCell' = true)
  (HO : OwnRow R e size W base v ps) (HB : Below base w0 W) (hbase : base ≤ W.heap.size) (hl : (ps.length + 1) * bytes ≤ 140737488355328)
  (h : ∀ v1 w1, OwnRow R e size w1 base v1 (ps ++ [p]) → Below base w0 w1 → W.grownBy w1 v.ownBlock → (v1.ownBlock = v.ownBlock ∨ ∃ b, v1.ownBlock = some b ∧ W.heap.size ≤ b) → wpList P ops Q rest (a.put o.dst v1) w1) :
  wpList P ops Q (o :: rest) a (W.alloc (.cells cs.toArray e)) := by
 obtain ⟨inner, hown, hr⟩ := HO
 refine print_append_cells base hgd s x t e z size bytes ho ht hinfo hz hs0 hb0 v ps.length inner cs hs hx hcs h1 hown HB hbase hl ?_
 intro v1 w1 hown1 hb1 hg1 hat1
 exact h v1 w1 ⟨inner ++ cs, by rw [List.length_append, List.length_singleton]; exact hown1, hr.snoc hp hcs⟩ hb1 hg1 hat1
end
section
variable {P : Program} {ops : Array Oper} {o : Oper} {a : Act} {Q : Exit → Act → World → Prop} {K : Act → World → Prop} {α : Type} {R : α → List Value → Prop}
end
theorem ReadsRow.inner_ {α : Type} {R : α → List Value → Prop} {size : Nat} {w : World} {ad : Addr} {n : Nat} {ps : List α} (h : ReadsRow R size w (some ad) n ps) :
  ∃ inner, Reps R size ps inner ∧ ∀ j u, inner[j]? = some u → w.cell? (ad.add j) = some u := by
 have key : ∀ m, m ≤ ps.length → ∃ inner, Reps R size (ps.take m) inner ∧ ∀ j u, inner[j]? = some u → w.cell? (ad.add j) = some u := by
  intro m
  induction m with
  | zero => exact fun _ => ⟨[], Reps.none _ _, fun j u hu => by simp at hu⟩
  | succ m ih =>
   intro hm
   obtain ⟨inner, hr, hc⟩ := ih (by omega)
   obtain ⟨ad', he, hcell⟩ := h.2.2 (by have := h.1; omega)
   injection he with he
   subst he
   obtain ⟨c, hcl, hp, hcc⟩ := hcell m _ (List.getElem?_eq_getElem (show m < ps.length by omega))
   refine ⟨inner ++ c, ?_, fun j u hu => ?_⟩
   ·rw [List.take_succ_eq_append_getElem (show m < ps.length by omega)]
    exact hr.snoc hp hcl
   ·have hil : inner.length = m * size := by rw [hr.1, List.length_take, Nat.min_eq_left (by omega)]
    rcases Nat.lt_or_ge j inner.length with hj | hj
    ·rw [List.getElem?_append_left hj] at hu
     exact hc j u hu
    ·rw [List.getElem?_append_right hj] at hu
     have := hcc (j - inner.length) u hu
     rwa [hil, Nat.add_sub_cancel' (by omega)] at this
 obtain ⟨inner, hr, hc⟩ := key ps.length (Nat.le_refl _)
 rw [List.take_length] at hr
 exact ⟨inner, hr, hc⟩
section
variable {α : Type} {P : Program}
end
section
variable {P : Program} {ops : Array Oper} {rest : List Oper} {o : Oper} {a : Act} {Q : Exit → Act → World → Prop}
end
structure Kd (α : Type) where
  sz : Nat
  E : List Nat
  K : World → α → List Value → Prop
  M : World → Nat → (Nat → Prop) → α → List Value → Prop
  K_len : ∀ {w x cs}, K w x cs → cs.length = sz
  K_one : ∀ {w x cs}, K w x cs → ∀ u ∈ cs, u.oneCell' = true
  K_below : ∀ {w w1 : World} {x cs}, Below w.heap.size w w1 → K w x cs → K w1 x cs
  K_of_M : ∀ {w base ok x cs}, M w base ok x cs → K w x cs
  M_mono : ∀ {w base ok ok' x cs}, (∀ k, ok k → ok' k) → M w base ok x cs → M w base ok' x cs
  M_bound : ∀ {w : World} {base ok x cs}, M w base ok x cs → M w base (fun k => ok k ∧ base ≤ k ∧ k < w.heap.size ∧ ∃ q, q ∈ E ∧ ∃ cells, w.heap[k]? = some (.cells cells q (0, 0))) x cs
  M_move : ∀ {w w1 : World} {base ok x cs}, (∀ k, ok k → w1.heap[k]? = w.heap[k]?) → M w base ok x cs → M w1 base ok x cs
  M_lower : ∀ {w base base' ok x cs}, base' ≤ base → M w base ok x cs → M w base' ok x cs
theorem own_move {w w1 : World} {base : Nat} {e : TypeId} {size n : Nat} {v : Value} {xs : List Value} (h : w.ownsRow base e size v n xs) (hm : ∀ k, v.ownBlock = some k → w1.heap[k]? = w.heap[k]?) : w1.ownsRow base e size v n xs := by
 obtain ⟨h1, h2⟩ := h
 refine ⟨h1, ?_⟩
 rcases h2 with h2 | ⟨g, cap, cur, rfl, hg, hh, r⟩
 ·exact .inl h2
 ·exact .inr ⟨g, cap, cur, rfl, hg, (hm g (by simp [Value.ownBlock])).trans hh, r⟩
theorem own_typed {w : World} {base : Nat} {e : TypeId} {size n : Nat} {v : Value} {xs : List Value} (h : w.ownsRow base e size v n xs) (k : Nat) (hk : v.ownBlock = some k) : ∃ cells, w.heap[k]? = some (.cells cells e (0, 0)) := by
 rcases h.2 with ⟨rfl, _⟩ | ⟨g, cap, cur, rfl, hg, hh, r⟩
 ·simp [Value.ownBlock] at hk
 ·have : g = k := by simpa [Value.ownBlock] using hk
  subst this
  exact ⟨cur, hh⟩
namespace Kd
def C {α : Type} (d : Kd α) (w : World) (A : Option Addr) (n : Nat) (xs : List α) : Prop := ReadsRow (d.K w) d.sz w A n xs
def R {α : Type} (d : Kd α) (e : Nat) (w : World) (base : Nat) (ok : Nat → Prop) (v : Value) (xs : List α) : Prop :=
 (∀ k, v.ownBlock = some k → ok k) ∧ OwnRow (d.M w base (fun k => ok k ∧ some k ≠ v.ownBlock)) e d.sz w base v xs
section
variable {α : Type} {d : Kd α} {e : Nat} {w w1 : World} {base : Nat} {ok ok' : Nat → Prop} {v : Value} {xs : List α}
theorem C_below {A : Option Addr} {n : Nat} (h : d.C w A n xs) (hb : Below w.heap.size w w1) : d.C w1 A n xs := ReadsRow.imp_ h hb (fun _ _ hp => d.K_below hb hp)
theorem R_mono (h : d.R e w base ok v xs) (hok : ∀ k, ok k → ok' k) : d.R e w base ok' v xs := ⟨fun k hk => hok k (h.1 k hk), h.2.imp_ (fun _ _ hp => d.M_mono (fun k hk => ⟨hok k hk.1, hk.2⟩) hp)⟩
theorem R_bound (h : d.R e w base ok v xs) : d.R e w base (fun k => ok k ∧ base ≤ k ∧ k < w.heap.size ∧ ∃ q, q ∈ e :: d.E ∧ ∃ cells, w.heap[k]? = some (.cells cells q (0, 0))) v xs := by
 obtain ⟨h0, inner, ho, hr⟩ := h
 refine ⟨fun k hk => ?_, inner, ho, hr.imp_ (fun _ _ hp => d.M_mono (fun k hk => ?_) (d.M_bound hp))⟩
 ·obtain ⟨cells, hc⟩ := own_typed ho k hk
  exact ⟨h0 k hk, own_base ho k hk, own_lt ho k hk, e, List.mem_cons_self, cells, hc⟩
 ·obtain ⟨⟨h1, h2⟩, h3, h4, q, hq, hc⟩ := hk
  exact ⟨⟨h1, h3, h4, q, List.mem_cons_of_mem _ hq, hc⟩, h2⟩
theorem R_move (h : d.R e w base ok v xs) (hm : ∀ k, ok k → w1.heap[k]? = w.heap[k]?) : d.R e w1 base ok v xs := by
 obtain ⟨h0, inner, ho, hr⟩ := h
 exact ⟨h0, inner, own_move ho (fun k hk => hm k (h0 k hk)), hr.imp_ (fun _ _ hp => d.M_move (fun k hk => hm k hk.1) hp)⟩
theorem R_lower {base' : Nat} (h : d.R e w base ok v xs) (hb : base' ≤ base) : d.R e w base' ok v xs := by
 obtain ⟨h0, inner, ho, hr⟩ := h
 exact ⟨h0, inner, own_weaken ho hb, hr.imp_ (fun _ _ hp => d.M_lower hb hp)⟩
theorem M_step {x : α} {cs : List Value} (h : d.M w base ok x cs) (hm : ∀ k, ok k → k < w.heap.size → w1.heap[k]? = w.heap[k]?) : d.M w1 base ok x cs :=
 d.M_mono (fun _ hk => hk.1) (d.M_move (fun k hk => hm k hk.1 hk.2.2.1) (d.M_bound h))
theorem M_below {x : α} {cs : List Value} (h : d.M w base ok x cs) (hb : Below w.heap.size w w1) : d.M w1 base ok x cs := M_step h (fun k _ hk => hb.block k hk)
theorem R_reads (h : d.R e w base ok v xs) : ∃ A c, v = .slice A xs.length c ∧ xs.length ≤ c ∧ d.C w A xs.length xs := by
 obtain ⟨A, c, he, hl, hr⟩ := OwnRow.reads h.2
 exact ⟨A, c, he, hl, hr.imp_ (Below.refl _ _) (fun _ _ hp => d.K_of_M hp)⟩
end
def scalar {α : Type} (enc : α → Value) (h1 : ∀ x, (enc x).oneCell' = true) : Kd α where
 sz := 1
 E := []
 K := fun _ x cs => cs = [enc x]
 M := fun _ _ _ x cs => cs = [enc x]
 K_len := fun h => by rw [h]; rfl
 K_one := fun h u hu => by
  rw [h] at hu
  rw [List.mem_singleton.1 hu]
  exact h1 _
 K_below := fun _ h => h
 K_of_M := fun h => h
 M_mono := fun _ h => h
 M_bound := fun h => h
 M_move := fun _ h => h
 M_lower := fun _ h => h
def int (k : IntKind) : Kd Int := scalar (Value.int k) (fun _ => rfl)
def bool : Kd Bool := scalar Value.bool (fun _ => rfl)
def string : Kd ByteArray := scalar Value.string (fun _ => rfl)
def slice {α : Type} (e : Nat) (d : Kd α) : Kd (List α) where
 sz := 1
 E := e :: d.E
 K := fun w xs cs => ∃ A c, cs = [.slice A xs.length c] ∧ xs.length ≤ c ∧ d.C w A xs.length xs
 M := fun w base ok xs cs => ∃ v, cs = [v] ∧ d.R e w base ok v xs
 K_len := by
  rintro w x cs ⟨A, c, rfl, _⟩
  rfl
 K_one := by
  rintro w x cs ⟨A, c, rfl, _⟩ u hu
  rw [List.mem_singleton.1 hu]
  rfl
 K_below := by
  rintro w w1 x cs hb ⟨A, c, rfl, hl, hr⟩
  exact ⟨A, c, rfl, hl, C_below hr hb⟩
 K_of_M := by
  rintro w base ok x cs ⟨v, rfl, h⟩
  obtain ⟨A, c, rfl, hl, hr⟩ := R_reads h
  exact ⟨A, c, rfl, hl, hr⟩
 M_mono := by
  rintro w base ok ok' x cs hok ⟨v, rfl, h⟩
  exact ⟨v, rfl, R_mono h hok⟩
 M_bound := by
  rintro w base ok x cs ⟨v, rfl, h⟩
  exact ⟨v, rfl, R_bound h⟩
 M_move := by
  rintro w w1 base ok x cs hm ⟨v, rfl, h⟩
  exact ⟨v, rfl, R_move h hm⟩
 M_lower := by
  rintro w base base' ok x cs hb ⟨v, rfl, h⟩
  exact ⟨v, rfl, R_lower h hb⟩
def pair {α β : Type} (a : Kd α) (b : Kd β) : Kd (α × β) where
 sz := a.sz + b.sz
 E := a.E ++ b.E
 K := fun w x cs => ∃ c0 c1, cs = c0 ++ c1 ∧ a.K w x.1 c0 ∧ b.K w x.2 c1
 M := fun w base ok x cs => ∃ c0 c1, cs = c0 ++ c1 ∧ a.M w base ok x.1 c0 ∧ b.M w base ok x.2 c1
 K_len := by
  rintro w x cs ⟨c0, c1, rfl, h0, h1⟩
  rw [List.length_append, a.K_len h0, b.K_len h1]
 K_one := by
  rintro w x cs ⟨c0, c1, rfl, h0, h1⟩ u hu
  rcases List.mem_append.1 hu with hu | hu
  ·exact a.K_one h0 u hu
  ·exact b.K_one h1 u hu
 K_below := by
  rintro w w1 x cs hb ⟨c0, c1, rfl, h0, h1⟩
  exact ⟨c0, c1, rfl, a.K_below hb h0, b.K_below hb h1⟩
 K_of_M := by
  rintro w base ok x cs ⟨c0, c1, rfl, h0, h1⟩
  exact ⟨c0, c1, rfl, a.K_of_M h0, b.K_of_M h1⟩
 M_mono := by
  rintro w base ok ok' x cs hok ⟨c0, c1, rfl, h0, h1⟩
  exact ⟨c0, c1, rfl, a.M_mono hok h0, b.M_mono hok h1⟩
 M_bound := by
  rintro w base ok x cs ⟨c0, c1, rfl, h0, h1⟩
  refine ⟨c0, c1, rfl, a.M_mono ?_ (a.M_bound h0), b.M_mono ?_ (b.M_bound h1)⟩
  ·rintro k ⟨h2, h3, h4, q, hq, hc⟩
   exact ⟨h2, h3, h4, q, List.mem_append_left _ hq, hc⟩
  ·rintro k ⟨h2, h3, h4, q, hq, hc⟩
   exact ⟨h2, h3, h4, q, List.mem_append_right _ hq, hc⟩
 M_move := by
  rintro w w1 base ok x cs hm ⟨c0, c1, rfl, h0, h1⟩
  exact ⟨c0, c1, rfl, a.M_move hm h0, b.M_move hm h1⟩
 M_lower := by
  rintro w base base' ok x cs hb ⟨c0, c1, rfl, h0, h1⟩
  exact ⟨c0, c1, rfl, a.M_lower hb h0, b.M_lower hb h1⟩
def iso {α β : Type} (d : Kd α) (f : β → α) : Kd β where
 sz := d.sz
 E := d.E
 K := fun w x cs => d.K w (f x) cs
 M := fun w base ok x cs => d.M w base ok (f x) cs
 K_len := d.K_len
 K_one := d.K_one
 K_below := d.K_below
 K_of_M := d.K_of_M
 M_mono := d.M_mono
 M_bound := d.M_bound
 M_move := d.M_move
 M_lower := d.M_lower
def bot {α : Type} (sz : Nat) (E : List Nat) : Kd α where
 sz := sz
 E := E
 K := fun _ _ _ => False
 M := fun _ _ _ _ _ => False
 K_len := fun h => h.elim
 K_one := fun h => h.elim
 K_below := fun _ h => h
 K_of_M := fun h => h
 M_mono := fun _ h => h
 M_bound := fun h => h
 M_move := fun _ h => h
 M_lower := fun _ h => h
def upto {α : Type} (F : Kd α → Kd α) (sz : Nat) (E : List Nat) : Nat → Kd α
 | 0 => bot sz E
 | n + 1 => F (upto F sz E n)
def fix {α : Type} (F : Kd α → Kd α) (sz : Nat) (E : List Nat) (hs : ∀ n, (upto F sz E n).sz = sz) (hE : ∀ n q, q ∈ (upto F sz E n).E → q ∈ E) : Kd α where
 sz := sz
 E := E
 K := fun w x cs => ∃ n, (upto F sz E n).K w x cs
 M := fun w base ok x cs => ∃ n, (upto F sz E n).M w base ok x cs
 K_len := by
  rintro w x cs ⟨n, h⟩
  rw [(upto F sz E n).K_len h, hs n]
 K_one := by
  rintro w x cs ⟨n, h⟩
  exact (upto F sz E n).K_one h
 K_below := by
  rintro w w1 x cs hb ⟨n, h⟩
  exact ⟨n, (upto F sz E n).K_below hb h⟩
 K_of_M := by
  rintro w base ok x cs ⟨n, h⟩
  exact ⟨n, (upto F sz E n).K_of_M h⟩
 M_mono := by
  rintro w base ok ok' x cs hok ⟨n, h⟩
  exact ⟨n, (upto F sz E n).M_mono hok h⟩
 M_bound := by
  rintro w base ok x cs ⟨n, h⟩
  refine ⟨n, (upto F sz E n).M_mono ?_ ((upto F sz E n).M_bound h)⟩
  rintro k ⟨h2, h3, h4, q, hq, hc⟩
  exact ⟨h2, h3, h4, q, hE n q hq, hc⟩
 M_move := by
  rintro w w1 base ok x cs hm ⟨n, h⟩
  exact ⟨n, (upto F sz E n).M_move hm h⟩
 M_lower := by
  rintro w base base' ok x cs hb ⟨n, h⟩
  exact ⟨n, (upto F sz E n).M_lower hb h⟩
theorem C_get {α : Type} {d : Kd α} {w : World} {A : Option Addr} {n : Nat} {xs : List α} (h : d.C w A n xs) (z : α) (i : Int) (h0 : 0 ≤ i) (h1 : i < n) :
  ∃ ad c, A = some ad ∧ c.length = d.sz ∧ d.K w (xs.getD i.toNat z) c ∧ ∀ j u, c[j]? = some u → w.cell? (ad.add (i.toNat * d.sz + j)) = some u := ReadsRow.get_ h z i h0 h1
section
variable {P : Program} {ops : Array Oper} {rest : List Oper} {o : Oper} {a : Act} {Q : Exit → Act → World → Prop} {α : Type}
end
section
variable {P : Program} {ops : Array Oper} {o : Oper} {a : Act} {Q : Exit → Act → World → Prop} {Kc : Act → World → Prop} {α : Type}
end
theorem reads_of_C {α : Type} {enc : α → Value} {d : α} {h1 : ∀ x, (enc x).oneCell' = true} {w : World} {A : Option Addr} {n : Nat} {xs : List α} (h : (scalar enc h1).C w A n xs) : ReadsOf enc d w A n xs := by
 refine ⟨h.1, h.2.1, fun hn => ?_⟩
 obtain ⟨ad, e, hc⟩ := h.2.2 hn
 refine ⟨ad, e, fun j hj => ?_⟩
 have hl : j < xs.length := by have := h.1; omega
 obtain ⟨c, _, hK, hcell⟩ := hc j _ (List.getElem?_eq_getElem hl)
 have hK' : c = [enc xs[j]] := hK
 subst hK'
 have := hcell 0 _ rfl
 simpa [scalar, List.getD_eq_getElem?_getD, List.getElem?_eq_getElem hl] using this
end Kd
namespace Kd
structure Mono {α β : Type} (F : Kd α → Kd β) : Prop where
  sz : ∀ d d' : Kd α, d.sz = d'.sz → (F d).sz = (F d').sz
  K : ∀ d d' : Kd α, d.sz = d'.sz → (∀ w x cs, d.K w x cs → d'.K w x cs) → ∀ w x cs, (F d).K w x cs → (F d').K w x cs
  M : ∀ d d' : Kd α, d.sz = d'.sz → (∀ w base ok x cs, d.M w base ok x cs → d'.M w base ok x cs) → ∀ w base ok x cs, (F d).M w base ok x cs → (F d').M w base ok x cs
def Sub {α β : Type} (F : Kd α → Kd β) (E : List Nat) : Prop := ∀ d : Kd α, (∀ q, q ∈ d.E → q ∈ E) → ∀ q, q ∈ (F d).E → q ∈ E
section
variable {α : Type} {F : Kd α → Kd α} {sz : Nat} {E : List Nat} {hs : ∀ n, (upto F sz E n).sz = sz} {hE : ∀ n q, q ∈ (upto F sz E n).E → q ∈ E}
end
end Kd
namespace Kd
end Kd
namespace Kd
section
variable {α β : Type} {d : Kd α} {d' : Kd β} {e e' : Nat} {w w1 W : World} {base b b' : Nat} {ok ok' okv oku : Nat → Prop} {v u : Value} {xs : List α} {ys : List β}
theorem C_alloc {A : Option Addr} {n : Nat} (h : d.C w A n xs) (o : Obj) : d.C (w.alloc o) A n xs := C_below h (below_alloc (Below.refl _ _) o)
theorem C_drew {A : Option Addr} {n : Nat} (h : d.C w A n xs) : d.C w.drew A n xs := C_below h (below_drew (Below.refl _ _))
end
section
variable {w W : World} {A : Option Addr} {n : Nat}
theorem at_int {k : IntKind} {xs : List Int} (h : (Kd.int k).C w A n xs) (i : Int) (h0 : 0 ≤ i) (h1 : i < n) : ∃ ad, A = some ad ∧ w.cell? (ad.add i.toNat) = some (.int k (rd xs i)) :=
 ReadsOf.at_ (reads_of_C (enc := Value.int k) (d := (0 : Int)) (h1 := fun _ => rfl) h) i h0 h1
variable {α : Type} {enc : α → Value} {h1 : ∀ x, (enc x).oneCell' = true} {e base g cap : Nat} {ok : Nat → Prop} {xs : List α}
end
section
variable {P : Program} {ops : Array Oper} {rest : List Oper} {o : Oper} {a : Act} {Q : Exit → Act → World → Prop}
theorem event_run {W w1 : World} {v : Value} (hgd : o.guard = none) (hrun : (execOp a.eval o).run P W = .ok (.value v) w1) (h : wpList P ops Q rest (a.put o.dst v) w1) : wpList P ops Q (o :: rest) a W := by
 refine wpList_plain hgd fun K hK => ?_
 unfold Oper.wp
 rw [hrun]
 exact hK _ _ h
variable {α : Type}
theorem R_lit (d : Kd α) {w0 W : World} (base e : Nat) (hgd : o.guard = none) {N : Tmp} (_hd : o.dst = some N) {xs : List α} {inner : List Value} {ok okp : Nat → Prop}
  (hrun : (execOp a.eval o).run P W = .ok (.value (.slice (some ⟨W.heap.size, 0, none⟩) xs.length xs.length)) (W.alloc (.cells inner.toArray e)))
  (hrep : Reps (d.M W base okp) d.sz xs inner) (hok : ∀ k, okp k → ok k) (hfresh : ok W.heap.size) (HB : Below base w0 W) (hbase : base ≤ W.heap.size) (hm : xs.length ≤ 9223372036854775807)
  (h : ∀ v1 w1, d.R e w1 base ok v1 xs → Below base w0 w1 → W.grownBy w1 none → (∃ b, v1.ownBlock = some b ∧ W.heap.size ≤ b) → wpList P ops Q rest (a.put o.dst v1) w1) : wpList P ops Q (o :: rest) a W := by
 refine event_run hgd hrun (h _ _ ⟨fun k hk => ?_, inner, ?_, ?_⟩ (HB.alloc hbase _) (World.grownBy_alloc W _ none) ⟨W.heap.size, by simp [Value.ownBlock], Nat.le_refl _⟩)
 ·have : W.heap.size = k := by simpa [Value.ownBlock] using hk
  subst this
  exact hfresh
 ·have h2 := World.ownsRow_lit (base := base) (e := e) (size := d.sz) W inner.toArray xs.length hbase (by simpa [maxLen] using hm) (by simpa using hrep.1)
  simpa using h2
 ·refine hrep.imp_ (fun p c hp => d.M_mono (fun k hk => ⟨hok k hk.1, fun he => ?_⟩) (M_below (d.M_bound hp) (below_alloc (Below.refl _ _) _)))
  have h3 : k = W.heap.size := by simpa [Value.ownBlock] using he
  have := hk.2.2.1
  omega
theorem reps_made {α : Type} {R : α → List Value → Prop} {z : Value} {size : Nat} {z0 : α} (hz : z.cells.size = size) (hs : 0 < size) (h0 : R z0 z.cells.toList) (m : Nat) : Reps R size (List.replicate m z0) (madeCells z.cells (m * size)).toList := by
 refine ⟨by simp [size_madeCells], fun j p hj => ?_⟩
 obtain ⟨hjl, hp⟩ := List.getElem?_eq_some_iff.1 hj
 have hjm : j < m := by simpa using hjl
 have hp' : z0 = p := by simpa using hp
 subst hp'
 have hle : j * size + size ≤ m * size := by rw [← Nat.succ_mul]; exact Nat.mul_le_mul_right _ hjm
 have : ((madeCells z.cells (m * size)).toList.drop (j * size)).take size = z.cells.toList := by
  apply List.ext_getElem
  ·simp [size_madeCells, hz]
   omega
  ·intro i h1 h2
   have hi : i < size := by rw [Array.length_toList, hz] at h2; exact h2
   have hmod : (j * size + i) % size = i := by
    rw [Nat.mul_comm, Nat.mul_add_mod]
    exact Nat.mod_eq_of_lt hi
   simp [madeCells, hz, hmod]
   rw [getElem!_pos z.cells i (by omega)]
 rw [this]
 exact h0
theorem R_make (d : Kd α) {w0 W : World} (base e : Nat) (hgd : o.guard = none) {N : Tmp} (hd : o.dst = some N) (t : TypeId) (x y : Operand) (ho : o.op = .makeSlice t x y) (n : Int) (hx : a.eval x = .int .i64 n) (hy : a.eval y = .int .i64 n)
  (ht : P.underlying t = some (.slice e)) (z : Value) (bytes : Nat) (hinfo : (P.info? e).map (fun i => (i.zero, i.size, i.bytes)) = some (some z, d.sz, bytes)) (hz : z.cells.size = d.sz) (hs0 : 0 < d.sz) (hb0 : 0 < bytes)
  (z0 : α) {ok okp : Nat → Prop} (hzero : d.M W base okp z0 z.cells.toList) (hok : ∀ k, okp k → ok k) (hfresh : ok W.heap.size) (h0 : 0 ≤ n) (hl : n.toNat * bytes ≤ 281474976710656) (HB : Below base w0 W) (hbase : base ≤ W.heap.size)
  (h : ∀ v1 w1, d.R e w1 base ok v1 (List.replicate n.toNat z0) → Below base w0 w1 → W.grownBy w1 none → (∃ b, v1.ownBlock = some b ∧ W.heap.size ≤ b) → wpList P ops Q rest (a.put o.dst v1) w1) : wpList P ops Q (o :: rest) a W := by
 obtain ⟨m, rfl⟩ := Int.eq_ofNat_of_zero_le h0
 simp only [Int.toNat_natCast] at hl h
 obtain ⟨i0, hi, hzz⟩ := Option.map_eq_some_iff.1 hinfo
 simp only [Prod.mk.injEq] at hzz
 obtain ⟨hz0, hz1, hz2⟩ := hzz
 have hm : m ≤ 281474976710656 := Nat.le_trans (Nat.le_mul_of_pos_right _ hb0) hl
 have hr := run_make (P := P) W t e i0 z ht hi hz0 .i64 .i64 (m : Int) (m : Int) (by omega) (by omega)
  (by
   have h3 : ((i0.bytes * m : Nat) : Int) ≤ 281474976710656 := by rw [hz2, Nat.mul_comm]; omega
   rwa [Int.natCast_mul] at h3) (by omega)
 simp only [Int.toNat_natCast] at hr
 rw [hz1] at hr
 refine R_lit d base e hgd hd (xs := List.replicate m z0) (inner := (madeCells z.cells (m * d.sz)).toList) (okp := okp) (ok := ok) ?_ (reps_made hz hs0 hzero m) hok hfresh HB hbase (by simp; omega) h
 simp [execOp, ho, hx, hy, hr]
end
end Kd
theorem own_take {w : World} {base n m c size : Nat} {e : TypeId} {A : Option Addr} {xs : List Value} (h : w.ownsRow base e size (.slice A n c) n xs) (hm : m ≤ n) : w.ownsRow base e size (.slice A m c) m (xs.take (m * size)) := by
 obtain ⟨h1, h2⟩ := h
 refine ⟨by rw [List.length_take, h1]; exact Nat.min_eq_left (Nat.mul_le_mul_right _ hm), ?_⟩
 rcases h2 with ⟨he, h0⟩ | ⟨g, cap, cur, he, hb, hh, hnc, hcm, hcs, ht⟩
 ·injection he with ha _ hc
  subst ha; subst hc
  exact .inl ⟨by rw [show m = 0 by omega], by omega⟩
 ·injection he with ha _ hc
  subst ha; subst hc
  refine .inr ⟨g, c, cur, rfl, hb, hh, by omega, hcm, hcs, ?_⟩
  rw [← ht, List.take_take, Nat.min_eq_left (Nat.mul_le_mul_right _ hm)]
section
variable {P : Program}
end
def QRow (w : World) (base : Nat) (e : TypeId) (size : Nat) (v : Value) (n : Nat) (xs : List Value) : Prop :=
  xs.length = n * size ∧
  ((n = 0 ∧ ∃ A, v = .slice A 0 0 ∧ ∀ a, A = some a → base ≤ a.block ∧ ∃ cur, w.heap[a.block]? = some (.cells cur e (0, 0))) ∨
   ∃ g off cap cur, v = .slice (some ⟨g, off * size, none⟩) n cap ∧ base ≤ g ∧ w.heap[g]? = some (.cells cur e (0, 0)) ∧ n ≤ cap ∧ off + cap ≤ maxLen ∧ cur.size = (off + cap) * size ∧ (cur.toList.drop (off * size)).take (n * size) = xs)
section
variable {w w1 : World} {base n size : Nat} {e : TypeId} {v : Value} {xs : List Value}
end
section
variable {P : Program}
end
namespace Kd
theorem reps_take {α : Type} {R : α → List Value → Prop} {size m : Nat} {ps : List α} {cs : List Value} (h : Reps R size ps cs) (hm : m ≤ ps.length) : Reps R size (ps.take m) (cs.take (m * size)) := by
 refine ⟨by rw [List.length_take, List.length_take, h.1, Nat.min_eq_left hm, Nat.min_eq_left (Nat.mul_le_mul_right _ hm)], fun j p hj => ?_⟩
 rw [List.getElem?_take] at hj
 split at hj
 ·rename_i hjm
  have := h.2 j p hj
  have hle : j * size + size ≤ m * size := by rw [← Nat.succ_mul]; exact Nat.mul_le_mul_right _ hjm
  rw [List.drop_take, List.take_take, Nat.min_eq_left (by omega)]
  exact this
 ·cases hj
theorem R_take {α : Type} {d : Kd α} {e m n c : Nat} {w : World} {base : Nat} {ok : Nat → Prop} {A : Option Addr} {xs : List α} (h : d.R e w base ok (.slice A n c) xs) (hm : m ≤ xs.length) : d.R e w base ok (.slice A m c) (xs.take m) := by
 obtain ⟨h0, inner, ho, hr⟩ := h
 have hn : n = xs.length := by
  obtain ⟨A', c', he⟩ := own_slice ho
  injection he
 subst hn
 have hb : ∀ x y : Nat, (Value.slice A x c).ownBlock = (Value.slice A y c).ownBlock := by
  intro x y
  cases A <;> rfl
 refine ⟨fun k hk => h0 k (by rw [hb _ m]; exact hk), inner.take (m * d.sz), ?_, ?_⟩
 ·rw [List.length_take, Nat.min_eq_left hm]
  exact own_take ho hm
 ·rw [hb m xs.length]
  exact reps_take hr hm
def Q {α : Type} (d : Kd α) (e : Nat) (w : World) (base : Nat) (ok : Nat → Prop) (v : Value) (xs : List α) : Prop :=
 (∀ k, v.ownBlock = some k → ok k) ∧ ∃ inner, QRow w base e d.sz v xs.length inner ∧ Reps (d.M w base (fun k => ok k ∧ some k ≠ v.ownBlock)) d.sz xs inner
section
variable {α : Type} {d : Kd α} {e : Nat} {w w1 W : World} {base : Nat} {ok ok' : Nat → Prop} {v : Value} {xs : List α}
end
section
variable {P : Program} {ops : Array Oper} {rest : List Oper} {o : Oper} {a : Act} {Q' : Exit → Act → World → Prop} {Kc : Act → World → Prop} {α : Type}
end
end Kd
namespace Kd
section
variable {α : Type} {d : Kd α} {e e' : Nat} {w w1 W : World} {base : Nat} {ok : Nat → Prop} {u v : Value} {xs : List α}
end
end Kd
namespace Kd
section
variable {α : Type} {d : Kd α} {e base g n cap : Nat} {ok okp : Nat → Prop} {W : World} {xs : List α}
end
end Kd
namespace Kd
def fixed {α : Type} (d : Kd α) (w0 : World) : Kd α where
 sz := d.sz
 E := []
 K := fun _ x cs => d.K w0 x cs
 M := fun _ _ _ x cs => d.K w0 x cs
 K_len := d.K_len
 K_one := d.K_one
 K_below := fun _ h => h
 K_of_M := fun h => h
 M_mono := fun _ h => h
 M_bound := fun h => h
 M_move := fun _ h => h
 M_lower := fun _ h => h
def or_ {α : Type} (a b : Kd α) (h : b.sz = a.sz) : Kd α where
 sz := a.sz
 E := a.E ++ b.E
 K := fun w x cs => a.K w x cs ∨ b.K w x cs
 M := fun w base ok x cs => a.M w base ok x cs ∨ b.M w base ok x cs
 K_len := fun hk => hk.elim a.K_len (fun hk => (b.K_len hk).trans h)
 K_one := fun hk => hk.elim a.K_one b.K_one
 K_below := fun hb hk => hk.imp (a.K_below hb) (b.K_below hb)
 K_of_M := fun hk => hk.imp a.K_of_M b.K_of_M
 M_mono := fun hok hk => hk.imp (a.M_mono hok) (b.M_mono hok)
 M_bound := fun hk => hk.imp
  (fun hk => a.M_mono (fun _ ⟨h1, h2, h3, q, hq, hc⟩ => ⟨h1, h2, h3, q, List.mem_append_left _ hq, hc⟩) (a.M_bound hk))
  (fun hk => b.M_mono (fun _ ⟨h1, h2, h3, q, hq, hc⟩ => ⟨h1, h2, h3, q, List.mem_append_right _ hq, hc⟩) (b.M_bound hk))
 M_move := fun hm hk => hk.imp (a.M_move hm) (b.M_move hm)
 M_lower := fun hb hk => hk.imp (a.M_lower hb) (b.M_lower hb)
def mix {α : Type} (e : Nat) (d dm : Kd α) (w0 : World) : Kd (List α) := or_ (fixed (slice e d) w0) (slice e dm) rfl
section
variable {α : Type} {F : Kd α → Kd α} {sz : Nat} {E : List Nat} {hs : ∀ n, (upto F sz E n).sz = sz} {hE : ∀ n q, q ∈ (upto F sz E n).E → q ∈ E}
end
end Kd
namespace Kd
theorem reps_append {α : Type} {R : α → List Value → Prop} {size : Nat} {ps qs : List α} {cs ds : List Value} (h : Reps R size ps cs) (h' : Reps R size qs ds) : Reps R size (ps ++ qs) (cs ++ ds) := by
 refine ⟨by rw [List.length_append, List.length_append, h.1, h'.1, Nat.add_mul], fun j p hj => ?_⟩
 rcases Nat.lt_or_ge j ps.length with hlt | hge
 ·rw [List.getElem?_append_left hlt] at hj
  have hle : j * size + size ≤ cs.length := by rw [h.1, ← Nat.succ_mul]; exact Nat.mul_le_mul_right _ hlt
  rw [List.drop_append_of_le_length (by omega), List.take_append_of_le_length (by rw [List.length_drop]; omega)]
  exact h.2 j p hj
 ·rw [List.getElem?_append_right hge] at hj
  have h2 := h'.2 (j - ps.length) p hj
  have hle : ps.length * size ≤ j * size := Nat.mul_le_mul_right _ hge
  rw [List.drop_append, List.drop_eq_nil_of_le (by rw [h.1]; exact hle), List.nil_append, h.1, ← Nat.sub_mul]
  exact h2
section
variable {P : Program} {ops : Array Oper} {rest : List Oper} {o : Oper} {a : Act} {Q : Exit → Act → World → Prop} {α : Type}
theorem R_append_rows (d : Kd α) {Rr : α → List Value → Prop} {w0 W : World} (base : Nat) (hgd : o.guard = none) (s x : Operand) (t e : TypeId) (z : Value) (bytes : Nat)
  (ho : o.op = .call { callee := .builtin .append, args := #[s, x], argTypes := #[t, t] })
  (ht : P.underlying t = some (.slice e)) (hinfo : (P.info? e).map (fun i => (i.zero, i.size, i.bytes)) = some (some z, d.sz, bytes)) (hz : z.cells.size = d.sz) (hs0 : 0 < d.sz) (hb0 : 0 < bytes)
  (v : Value) (xs ys : List α) (A : Option Addr) (m c : Nat) (ok okp : Nat → Prop) (hs : a.eval s = v) (hx : a.eval x = .slice A m c)
  (HO : d.R e W base ok v xs) (HR : ReadsRow Rr d.sz W A m ys) (hKM : ∀ x cs, Rr x cs → d.M W base okp x cs) (hokp : ∀ k, okp k → ok k ∧ some k ≠ v.ownBlock) (hfresh : ∀ k, W.heap.size ≤ k → ok k)
  (HB : Below base w0 W) (hbase : base ≤ W.heap.size) (hl : (xs.length + m) * bytes ≤ 140737488355328)
  (h : ∀ v1 w1, d.R e w1 base ok v1 (xs ++ ys) → Below base w0 w1 → W.grownBy w1 v.ownBlock → (v1.ownBlock = v.ownBlock ∨ ∃ b, v1.ownBlock = some b ∧ W.heap.size ≤ b) → wpList P ops Q rest (a.put o.dst v1) w1) :
  wpList P ops Q (o :: rest) a W := by
 obtain ⟨i0, hi, hzz⟩ := Option.map_eq_some_iff.1 hinfo
 simp only [Prod.mk.injEq] at hzz
 obtain ⟨hz0, hz1, hz2⟩ := hzz
 have hm : ys.length = m := HR.1
 have hlen : xs.length + m ≤ 140737488355328 := Nat.le_trans (Nat.le_mul_of_pos_right _ hb0) hl
 obtain ⟨hok, inner, hown, hr⟩ := HO
 have hrun : ∃ v1 w1, (Builtin.append_ #[t, t] o.type #[v, .slice A m c]).run P W = .ok v1 w1 ∧ d.R e w1 base ok v1 (xs ++ ys) ∧ W.grownBy w1 v.ownBlock ∧ (v1.ownBlock = v.ownBlock ∨ ∃ b, v1.ownBlock = some b ∧ W.heap.size ≤ b) := by
  rcases A with _ | ad
  ·have h0 : m = 0 := by
    rcases Nat.eq_zero_or_pos m with h0 | h0
    ·exact h0
    ·obtain ⟨ad, h, _⟩ := HR.2.2 h0
     cases h
   subst h0
   obtain rfl : ys = [] := List.eq_nil_of_length_eq_zero hm
   refine ⟨v, W, ?_, by rw [List.append_nil]; exact ⟨hok, inner, hown, hr⟩, World.grownBy.refl W _, .inl rfl⟩
   rcases hown.2 with ⟨rfl, hn⟩ | ⟨g, cap, cur, rfl, _, _, hnc, _⟩
   ·simp [Builtin.append_, run_underlying ht, sizeOf, typeInfo, hi, Builtin.lenOf, Builtin.firstCells]
   ·simp [Builtin.append_, run_underlying ht, sizeOf, typeInfo, hi, Builtin.lenOf, Builtin.firstCells, hnc, storeCells]
  ·obtain ⟨news, hnr, hnc⟩ := ReadsRow.inner_ HR
   have hnM : Reps (d.M W base okp) d.sz ys news := hnr.imp_ (fun p c hp => hKM p c hp)
   have hone : ∀ u ∈ news, u.oneCell' = true := by
    intro u hu
    obtain ⟨q, hq, rfl⟩ := List.mem_iff_getElem.1 hu
    have hql : q / d.sz < ys.length := by
     rw [Nat.div_lt_iff_lt_mul hs0]
     rw [← hnM.1]
     exact hq
    have hc := hnM.2 (q / d.sz) _ (List.getElem?_eq_getElem hql)
    refine d.K_one (d.K_of_M hc) _ ?_
    rw [List.mem_iff_getElem?]
    refine ⟨q % d.sz, ?_⟩
    rw [List.getElem?_take, if_pos (Nat.mod_lt _ hs0), List.getElem?_drop, Nat.mul_comm, Nat.div_add_mod, List.getElem?_eq_getElem hq]
   obtain ⟨v1, w1, hrun, h2, hg, _, hat⟩ := run_append_own_at (P := P) W base t o.type e i0 z d.sz bytes ht hi hz0 hz1 hz2 hz hs0 v xs.length inner hown ad m c news (by rw [hnM.1, hm]) hnc hone (by simp only [maxLen]; omega) hl hbase
   have hat' : v1.ownBlock = v.ownBlock ∨ ∃ b, v1.ownBlock = some b ∧ W.heap.size ≤ b := by
    rcases hat with hat | hat
    ·exact .inl hat
    ·exact .inr ⟨_, hat, Nat.le_refl _⟩
   have hne : ∀ k, some k ≠ v.ownBlock → k < W.heap.size → some k ≠ v1.ownBlock := by
    intro k hk hlt
    rcases hat' with hat | ⟨b, hb, hle⟩
    ·rw [hat]; exact hk
    ·rw [hb]
     intro he
     injection he with he
     omega
   have step : ∀ {q : α} {c : List Value} {o : Nat → Prop}, d.M W base o q c → (∀ k, o k → ok k ∧ some k ≠ v.ownBlock) → d.M w1 base (fun k => ok k ∧ some k ≠ v1.ownBlock) q c := by
    intro q c o hq ho
    have h1 := d.M_move (w1 := w1) (fun k hk => hg.block k hk.2.2.1 (ho k hk.1).2) (d.M_bound hq)
    exact d.M_mono (fun k hk => ⟨(ho k hk.1).1, hne k (ho k hk.1).2 hk.2.2.1⟩) h1
   refine ⟨v1, w1, hrun, ⟨fun k hk => ?_, inner ++ news, by rw [List.length_append, hm]; exact h2, reps_append (hr.imp_ (fun _ _ hq => step hq (fun _ hk => hk))) (hnM.imp_ (fun _ _ hq => step hq hokp))⟩, hg, hat'⟩
   rcases hat' with hat | ⟨b, hb, hle⟩
   ·exact hok k (hat ▸ hk)
   ·rw [hb] at hk
    injection hk with hk
    exact hfresh k (by omega)
 obtain ⟨v1, w1, hr1, h1, hg, hat⟩ := hrun
 refine wpList_plain hgd fun K hK => ?_
 unfold Oper.wp execOp
 simp only [ho, resolve, invoke, builtin, Sem.run_bind, Sem.run_pure, Result.andThen_ok, List.map_toArray, List.map_cons, List.map_nil, hs, hx, hr1]
 exact hK _ _ (h v1 w1 h1 (HB.grown hg hbase (own_base hown)) hg hat)
end
end Kd
namespace Kd
section
variable {P : Program} {ops : Array Oper} {rest : List Oper} {o : Oper} {a : Act} {Q : Exit → Act → World → Prop} {α : Type}
end
end Kd
theorem add_add (a : Addr) (i j : Nat) : (a.add i).add j = a.add (i + j) := by
 unfold Addr.add
 by_cases h1 : i = 0 <;> by_cases h2 : j = 0 <;> simp [h1, h2, Nat.add_assoc]
namespace Kd
section
variable {α : Type} {k : Kd α} {w : World} {A : Option Addr} {xs : List α} {m c : Nat}
theorem C_take (h : k.C w A xs.length xs) (hm : m ≤ xs.length) : k.C w A (xs.take m).length (xs.take m) := by
 have hl : (xs.take m).length = m := by rw [List.length_take]; omega
 refine ⟨rfl, by rw [hl]; have := h.2.1; omega, fun hp => ?_⟩
 obtain ⟨ad, e, hc⟩ := h.2.2 (by omega)
 refine ⟨ad, e, fun j p hj => hc j p ?_⟩
 rw [List.getElem?_take] at hj
 split at hj
 ·exact hj
 ·cases hj
theorem C_drop (h : k.C w A xs.length xs) (hm : m ≤ xs.length) (hc : xs.length ≤ c) : k.C w (if c = m then A else A.map (·.add (m * k.sz))) (xs.drop m).length (xs.drop m) := by
 have hl : (xs.drop m).length = xs.length - m := List.length_drop
 refine ⟨rfl, by rw [hl]; have := h.2.1; omega, fun hp => ?_⟩
 rw [hl] at hp
 obtain ⟨ad, rfl, hcell⟩ := h.2.2 (by omega)
 rw [if_neg (by omega)]
 refine ⟨ad.add (m * k.sz), rfl, fun j p hj => ?_⟩
 rw [List.getElem?_drop] at hj
 obtain ⟨cs, h1, h2, h3⟩ := hcell (m + j) p hj
 refine ⟨cs, h1, h2, fun i u hu => ?_⟩
 rw [add_add, show m * k.sz + (j * k.sz + i) = (m + j) * k.sz + i by rw [Nat.add_mul]; omega]
 exact h3 i u hu
end
end Kd
section
variable {P : Program}
end
theorem ReadsInt.nil (W : World) (k : IntKind) : ReadsInt W k none ([] : List Int).length [] := ⟨rfl, by simp, fun h => absurd h (Nat.lt_irrefl 0)⟩
theorem ReadsInt.drewN {W : World} {k : IntKind} {A : Option Addr} {n : Nat} {xs : List Int} (h : ReadsInt W k A n xs) (m : Nat) : ReadsInt (W.drewN m) k A n xs := h
theorem keep_cell {w W : World} {g : Nat} (h : KeepBut w W g none) {a : Addr} {v : Value} (hc : w.cell? a = some v) (hne : a.block ≠ g) : W.cell? a = some v := by
 have := h.2 a.block (World.block_lt_of_cell? w a hc) hne (by simp)
 simpa [World.cell?, this] using hc
theorem add_block (a : Addr) (i : Nat) : (a.add i).block = a.block := by unfold Addr.add; split <;> rfl
theorem ReadsOf.nil {α : Type} (enc : α → Value) (d : α) (W : World) : ReadsOf enc d W none ([] : List α).length [] := ⟨rfl, by simp, fun h => absurd h (Nat.lt_irrefl 0)⟩
theorem ReadsOf.drewN {α : Type} {enc : α → Value} {d : α} {W : World} {A : Option Addr} {n : Nat} {xs : List α} (h : ReadsOf enc d W A n xs) (m : Nat) : ReadsOf enc d (W.drewN m) A n xs := h
theorem ReadsInt.keep {w W : World} {k : IntKind} {A : Option Addr} {n g : Nat} {xs : List Int} (h : ReadsInt w k A n xs) (hk : KeepBut w W g none) (hf : ∀ ad, A = some ad → 0 < n → ad.block ≠ g) : ReadsInt W k A n xs :=
 ⟨h.1, h.2.1, fun hn => by
  obtain ⟨ad, e, hc⟩ := h.2.2 hn
  exact ⟨ad, e, fun j hj => keep_cell hk (hc j hj) (by rw [add_block]; exact hf ad e hn)⟩⟩
theorem ReadsOf.keep {α : Type} {enc : α → Value} {d : α} {w W : World} {A : Option Addr} {n g : Nat} {xs : List α} (h : ReadsOf enc d w A n xs) (hk : KeepBut w W g none) (hf : ∀ ad, A = some ad → 0 < n → ad.block ≠ g) : ReadsOf enc d W A n xs :=
 ⟨h.1, h.2.1, fun hn => by
  obtain ⟨ad, e, hc⟩ := h.2.2 hn
  exact ⟨ad, e, fun j hj => keep_cell hk (hc j hj) (by rw [add_block]; exact hf ad e hn)⟩⟩
theorem own_cap {W : World} {base n c : Nat} {e : TypeId} {size : Nat} {A : Option Addr} {xs : List Value} (h : W.ownsRow base e size (.slice A n c) n xs) : n ≤ c := by
 rcases h.2 with ⟨h1, h2⟩ | ⟨g, cap, cur, h1, _, _, h2, _⟩
 ·injection h1 with _ h3 h4
  omega
 ·injection h1 with _ _ h4
  omega
namespace Kd
section
variable {α β : Type} {d : Kd α} {d' : Kd β} {e e' base base' n : Nat} {ok ok' : Nat → Prop} {w W w1 W1 : World} {v u : Value} {xs : List α} {ys : List β} {A : Option Addr} {c : Nat}
end
section
variable {α : Type} {enc : α → Value} {h1 : ∀ x, (enc x).oneCell' = true} {w W : World} {A : Option Addr} {n g : Nat} {xs : List α}
end
end Kd
namespace Kd
section
variable {α : Type} {d : Kd α} {e base g : Nat} {ok : Nat → Prop} {w w1 : World} {v : Value} {xs : List α} {o : Obj}
end
end Kd
section
variable {P : Program} {ops : Array Oper} {rest : List Oper} {o : Oper} {a : Act} {Q : Exit → Act → World → Prop}
end
namespace Kd
section
variable {α : Type} {enc : α → Value} {h1 : ∀ x, (enc x).oneCell' = true} {e base g n cap : Nat} {ok : Nat → Prop} {W : World} {xs : List α}
end
end Kd
section
variable {P : Program} {ops : Array Oper} {rest : List Oper} {o : Oper} {a : Act} {Q : Exit → Act → World → Prop}
end
namespace Kd
section
variable {α : Type} {enc : α → Value} {h1 : ∀ x, (enc x).oneCell' = true} {e base g n cap : Nat} {ok : Nat → Prop} {W : World} {xs : List α}
end
end Kd
section
variable {P : Program} {ops : Array Oper} {rest : List Oper} {o : Oper} {a : Act} {Q : Exit → Act → World → Prop} {W : World}
theorem gate_dst {N : Tmp} (_hN : o.dst = some N) (h : wpList P ops Q (o :: rest) a W) : wpList P ops Q (o :: rest) a W := h
end
section
variable {P : Program} {ops : Array Oper} {o : Oper} {a : Act} {Q : Exit → Act → World → Prop} {Kc : Act → World → Prop}
theorem event_step {W w1 : World} {v : Value} (hw : Region.wanted o (yielded ops a.tmps) = true) (hrun : (execOp a.eval o).run P W = .ok (.value v) w1) (h : Kc (a.put o.dst v) w1) : if Region.wanted o (yielded ops a.tmps) = true then Oper.wp P o a W Kc Q else Kc (a.put o.dst undef) W := by
 rw [if_pos hw]
 unfold Oper.wp
 rw [hrun]
 exact h
namespace Kd
variable {α : Type}
theorem R_lit_step (d : Kd α) {w0 W : World} (base e : Nat) (hw : Region.wanted o (yielded ops a.tmps) = true) {N : Tmp} (_hd : o.dst = some N) {xs : List α} {inner : List Value} {ok okp : Nat → Prop}
  (hrun : (execOp a.eval o).run P W = .ok (.value (.slice (some ⟨W.heap.size, 0, none⟩) xs.length xs.length)) (W.alloc (.cells inner.toArray e)))
  (hrep : Reps (d.M W base okp) d.sz xs inner) (hok : ∀ k, okp k → ok k) (hfresh : ok W.heap.size) (HB : Below base w0 W) (hbase : base ≤ W.heap.size) (hm : xs.length ≤ 9223372036854775807)
  (h : ∀ v1 w1, d.R e w1 base ok v1 xs → Below base w0 w1 → W.grownBy w1 none → (∃ b, v1.ownBlock = some b ∧ W.heap.size ≤ b) → Kc (a.put o.dst v1) w1) : if Region.wanted o (yielded ops a.tmps) = true then Oper.wp P o a W Kc Q else Kc (a.put o.dst undef) W := by
 refine event_step hw hrun (h _ _ ⟨fun k hk => ?_, inner, ?_, ?_⟩ (HB.alloc hbase _) (World.grownBy_alloc W _ none) ⟨W.heap.size, by simp [Value.ownBlock], Nat.le_refl _⟩)
 ·have : W.heap.size = k := by simpa [Value.ownBlock] using hk
  subst this
  exact hfresh
 ·have h2 := World.ownsRow_lit (base := base) (e := e) (size := d.sz) W inner.toArray xs.length hbase (by simpa [maxLen] using hm) (by simpa using hrep.1)
  simpa using h2
 ·refine hrep.imp_ (fun p c hp => d.M_mono (fun k hk => ⟨hok k hk.1, fun he => ?_⟩) (M_below (d.M_bound hp) (below_alloc (Below.refl _ _) _)))
  have h3 : k = W.heap.size := by simpa [Value.ownBlock] using he
  have := hk.2.2.1
  omega
theorem R_make_step (d : Kd α) {w0 W : World} (base e : Nat) (hw : Region.wanted o (yielded ops a.tmps) = true) {N : Tmp} (hd : o.dst = some N) (t : TypeId) (x y : Operand) (ho : o.op = .makeSlice t x y) (n : Int) (hx : a.eval x = .int .i64 n) (hy : a.eval y = .int .i64 n)
  (ht : P.underlying t = some (.slice e)) (z : Value) (bytes : Nat) (hinfo : (P.info? e).map (fun i => (i.zero, i.size, i.bytes)) = some (some z, d.sz, bytes)) (hz : z.cells.size = d.sz) (hs0 : 0 < d.sz) (hb0 : 0 < bytes)
  (z0 : α) {ok okp : Nat → Prop} (hzero : d.M W base okp z0 z.cells.toList) (hok : ∀ k, okp k → ok k) (hfresh : ok W.heap.size) (h0 : 0 ≤ n) (hl : n.toNat * bytes ≤ 281474976710656) (HB : Below base w0 W) (hbase : base ≤ W.heap.size)
  (h : ∀ v1 w1, d.R e w1 base ok v1 (List.replicate n.toNat z0) → Below base w0 w1 → W.grownBy w1 none → (∃ b, v1.ownBlock = some b ∧ W.heap.size ≤ b) → Kc (a.put o.dst v1) w1) : if Region.wanted o (yielded ops a.tmps) = true then Oper.wp P o a W Kc Q else Kc (a.put o.dst undef) W := by
 obtain ⟨m, rfl⟩ := Int.eq_ofNat_of_zero_le h0
 simp only [Int.toNat_natCast] at hl h
 obtain ⟨i0, hi, hzz⟩ := Option.map_eq_some_iff.1 hinfo
 simp only [Prod.mk.injEq] at hzz
 obtain ⟨hz0, hz1, hz2⟩ := hzz
 have hm : m ≤ 281474976710656 := Nat.le_trans (Nat.le_mul_of_pos_right _ hb0) hl
 have hr := run_make (P := P) W t e i0 z ht hi hz0 .i64 .i64 (m : Int) (m : Int) (by omega) (by omega)
  (by
   have h3 : ((i0.bytes * m : Nat) : Int) ≤ 281474976710656 := by rw [hz2, Nat.mul_comm]; omega
   rwa [Int.natCast_mul] at h3) (by omega)
 simp only [Int.toNat_natCast] at hr
 rw [hz1] at hr
 refine R_lit_step d base e hw hd (xs := List.replicate m z0) (inner := (madeCells z.cells (m * d.sz)).toList) (okp := okp) (ok := ok) ?_ (reps_made hz hs0 hzero m) hok hfresh HB hbase (by simp; omega) h
 simp [execOp, ho, hx, hy, hr]
theorem R_append_rows_step (d : Kd α) {Rr : α → List Value → Prop} {w0 W : World} (base : Nat) (hw : Region.wanted o (yielded ops a.tmps) = true) (s x : Operand) (t e : TypeId) (z : Value) (bytes : Nat)
  (ho : o.op = .call { callee := .builtin .append, args := #[s, x], argTypes := #[t, t] })
  (ht : P.underlying t = some (.slice e)) (hinfo : (P.info? e).map (fun i => (i.zero, i.size, i.bytes)) = some (some z, d.sz, bytes)) (hz : z.cells.size = d.sz) (hs0 : 0 < d.sz) (hb0 : 0 < bytes)
  (v : Value) (xs ys : List α) (A : Option Addr) (m c : Nat) (ok okp : Nat → Prop) (hs : a.eval s = v) (hx : a.eval x = .slice A m c)
  (HO : d.R e W base ok v xs) (HR : ReadsRow Rr d.sz W A m ys) (hKM : ∀ x cs, Rr x cs → d.M W base okp x cs) (hokp : ∀ k, okp k → ok k ∧ some k ≠ v.ownBlock) (hfresh : ∀ k, W.heap.size ≤ k → ok k)
  (HB : Below base w0 W) (hbase : base ≤ W.heap.size) (hl : (xs.length + m) * bytes ≤ 140737488355328)
  (h : ∀ v1 w1, d.R e w1 base ok v1 (xs ++ ys) → Below base w0 w1 → W.grownBy w1 v.ownBlock → (v1.ownBlock = v.ownBlock ∨ ∃ b, v1.ownBlock = some b ∧ W.heap.size ≤ b) → Kc (a.put o.dst v1) w1) :
  if Region.wanted o (yielded ops a.tmps) = true then Oper.wp P o a W Kc Q else Kc (a.put o.dst undef) W := by
 obtain ⟨i0, hi, hzz⟩ := Option.map_eq_some_iff.1 hinfo
 simp only [Prod.mk.injEq] at hzz
 obtain ⟨hz0, hz1, hz2⟩ := hzz
 have hm : ys.length = m := HR.1
 have hlen : xs.length + m ≤ 140737488355328 := Nat.le_trans (Nat.le_mul_of_pos_right _ hb0) hl
 obtain ⟨hok, inner, hown, hr⟩ := HO
 have hrun : ∃ v1 w1, (Builtin.append_ #[t, t] o.type #[v, .slice A m c]).run P W = .ok v1 w1 ∧ d.R e w1 base ok v1 (xs ++ ys) ∧ W.grownBy w1 v.ownBlock ∧ (v1.ownBlock = v.ownBlock ∨ ∃ b, v1.ownBlock = some b ∧ W.heap.size ≤ b) := by
  rcases A with _ | ad
  ·have h0 : m = 0 := by
    rcases Nat.eq_zero_or_pos m with h0 | h0
    ·exact h0
    ·obtain ⟨ad, h, _⟩ := HR.2.2 h0
     cases h
   subst h0
   obtain rfl : ys = [] := List.eq_nil_of_length_eq_zero hm
   refine ⟨v, W, ?_, by rw [List.append_nil]; exact ⟨hok, inner, hown, hr⟩, World.grownBy.refl W _, .inl rfl⟩
   rcases hown.2 with ⟨rfl, hn⟩ | ⟨g, cap, cur, rfl, _, _, hnc, _⟩
   ·simp [Builtin.append_, run_underlying ht, sizeOf, typeInfo, hi, Builtin.lenOf, Builtin.firstCells]
   ·simp [Builtin.append_, run_underlying ht, sizeOf, typeInfo, hi, Builtin.lenOf, Builtin.firstCells, hnc, storeCells]
  ·obtain ⟨news, hnr, hnc⟩ := ReadsRow.inner_ HR
   have hnM : Reps (d.M W base okp) d.sz ys news := hnr.imp_ (fun p c hp => hKM p c hp)
   have hone : ∀ u ∈ news, u.oneCell' = true := by
    intro u hu
    obtain ⟨q, hq, rfl⟩ := List.mem_iff_getElem.1 hu
    have hql : q / d.sz < ys.length := by
     rw [Nat.div_lt_iff_lt_mul hs0]
     rw [← hnM.1]
     exact hq
    have hc := hnM.2 (q / d.sz) _ (List.getElem?_eq_getElem hql)
    refine d.K_one (d.K_of_M hc) _ ?_
    rw [List.mem_iff_getElem?]
    refine ⟨q % d.sz, ?_⟩
    rw [List.getElem?_take, if_pos (Nat.mod_lt _ hs0), List.getElem?_drop, Nat.mul_comm, Nat.div_add_mod, List.getElem?_eq_getElem hq]
   obtain ⟨v1, w1, hrun, h2, hg, _, hat⟩ := run_append_own_at (P := P) W base t o.type e i0 z d.sz bytes ht hi hz0 hz1 hz2 hz hs0 v xs.length inner hown ad m c news (by rw [hnM.1, hm]) hnc hone (by simp only [maxLen]; omega) hl hbase
   have hat' : v1.ownBlock = v.ownBlock ∨ ∃ b, v1.ownBlock = some b ∧ W.heap.size ≤ b := by
    rcases hat with hat | hat
    ·exact .inl hat
    ·exact .inr ⟨_, hat, Nat.le_refl _⟩
   have hne : ∀ k, some k ≠ v.ownBlock → k < W.heap.size → some k ≠ v1.ownBlock := by
    intro k hk hlt
    rcases hat' with hat | ⟨b, hb, hle⟩
    ·rw [hat]; exact hk
    ·rw [hb]
     intro he
     injection he with he
     omega
   have step : ∀ {q : α} {c : List Value} {o : Nat → Prop}, d.M W base o q c → (∀ k, o k → ok k ∧ some k ≠ v.ownBlock) → d.M w1 base (fun k => ok k ∧ some k ≠ v1.ownBlock) q c := by
    intro q c o hq ho
    have h1 := d.M_move (w1 := w1) (fun k hk => hg.block k hk.2.2.1 (ho k hk.1).2) (d.M_bound hq)
    exact d.M_mono (fun k hk => ⟨(ho k hk.1).1, hne k (ho k hk.1).2 hk.2.2.1⟩) h1
   refine ⟨v1, w1, hrun, ⟨fun k hk => ?_, inner ++ news, by rw [List.length_append, hm]; exact h2, reps_append (hr.imp_ (fun _ _ hq => step hq (fun _ hk => hk))) (hnM.imp_ (fun _ _ hq => step hq hokp))⟩, hg, hat'⟩
   rcases hat' with hat | ⟨b, hb, hle⟩
   ·exact hok k (hat ▸ hk)
   ·rw [hb] at hk
    injection hk with hk
    exact hfresh k (by omega)
 obtain ⟨v1, w1, hr1, h1, hg, hat⟩ := hrun
 rw [if_pos hw]
 unfold Oper.wp execOp
 simp only [ho, resolve, invoke, builtin, Sem.run_bind, Sem.run_pure, Result.andThen_ok, List.map_toArray, List.map_cons, List.map_nil, hs, hx, hr1]
 exact h v1 w1 h1 (HB.grown hg hbase (own_base hown)) hg hat
end Kd
end
inductive Vals (P : Program) (tmps : Array Value) (w : World) : List ResultVar → List Value → Prop where
  | nil : Vals P tmps w [] []
  | tmp {u : Tmp} {rs : List ResultVar} {vs : List Value} (h : Vals P tmps w rs vs) : Vals P tmps w (.tmp u :: rs) (tmps.getD u undef :: vs)
  | cell {p : Tmp} {ty : TypeId} {rs : List ResultVar} {vs : List Value} (g : Nat) (t : TypeId) (cs : Array Value) (fr : Nat × Nat) (d : TypeDesc)
      (hp : tmps.getD p undef = .pointer (some ⟨g, 0, none⟩)) (hg : w.heap[g]? = some (.cells cs t fr))
      (hu : P.underlying ty = some d) (hd : (match d with | .struct _ | .array _ _ => true | _ => false) = true) (hi : (P.info? ty).map (·.size) = some cs.size)
      (h : Vals P tmps w rs vs) : Vals P tmps w (.cell p ty :: rs) (.agg cs :: vs)
section
variable {P : Program} {tmps : Array Value} {w : World}
theorem vals_run {rs : List ResultVar} {vs : List Value} (hv : Vals P tmps w rs vs) (f : ResultVar → Sem Value) (hf : ∀ u, f (.tmp u) = pure (tmps.getD u undef)) (hc : ∀ a t, f (.cell a t) = (do loadVar t (← asAddr (tmps.getD a undef)))) :
  (rs.mapM f).run P w = .ok vs w := by
 induction hv with
 | nil => simp
 | tmp h ih => simp [List.mapM_cons, hf, ih]
 | cell g t cs fr d hp hg hu hd hi h ih =>
  rw [List.mapM_cons, hc, hp]
  simp [asAddr, run_loadVar_row w g t _ cs fr d hg hu hd hi, ih]
theorem results_list {fn : Func} {rs : List ResultVar} {vs : List Value} (h : fn.results = rs.toArray) (hl : vs.length ≠ 1) (hv : Vals P tmps w rs vs) : (results fn tmps).run P w = .ok (.tuple vs.toArray) w := by
 unfold results
 rw [h, List.mapM_toArray]
 simp only [Sem.run_bind, Sem.run_map]
 rw [vals_run hv]
 ·simp [hl]
 ·intro u
  rfl
 ·intro a t
  rfl
end
namespace Kd
section
variable {P : Program} {α : Type}
end
section
variable {P : Program} {ops : Array Oper} {rest : List Oper} {o : Oper} {a : Act} {Q : Exit → Act → World → Prop} {Kc : Act → World → Prop} {α : Type}
end
end Kd
end Go.Proofs.YtljfoglilggkjaaGreatW.PrintWords
namespace Go.Proofs.YtljfoglilggkjaaGreat
open Go.RowKit Go.Proofs.YtljfoglilggkjaaGreatW.PrintWords
structure Slot where
  text : ByteArray
  uses : Int
structure Vol where
  name : ByteArray
  blocks : List Int
structure Pool where
  slots : List Slot
  vols : List Vol
structure Op where
  kind : Int
  name : ByteArray
  dest : ByteArray
  n : Int
  text : ByteArray
def Slot.z : Slot := ⟨⟨#[]⟩, 0⟩
def Vol.z : Vol := ⟨⟨#[]⟩, []⟩
abbrev zW  : Array Value := #[.slice none 0 0, .int .i64 0, .int .i64 0, .bool false, .slice none 0 0, .slice none 0 0]
abbrev zN_  : Array Value := #[.bool false, .int .i64 0, .bool false, .bool false, .slice none 0 0]
abbrev oC (a0 : Op) : Array Value := #[.int .i64 a0.kind, .string a0.name, .string a0.dest, .int .i64 a0.n, .string a0.text]
def Op.z : Op := ⟨0, ⟨#[]⟩, ⟨#[]⟩, 0, ⟨#[]⟩⟩
abbrev kInt : Kd Int := Kd.int .i64
def kSlot : Kd Slot := Kd.iso (Kd.pair Kd.string kInt) (fun x : Slot => (x.text, x.uses))
def kVol : Kd Vol := Kd.iso (Kd.pair Kd.string (Kd.slice 3 kInt)) (fun x : Vol => (x.name, x.blocks))
theorem kSlot_open {w : World} {x : Slot} {cs : List Value} (h : kSlot.K w x cs) : cs = [.string x.text, .int .i64 x.uses] := by
 obtain ⟨_, _, rfl, rfl, rfl⟩ := h
 exact rfl
theorem kVol_open {w : World} {x : Vol} {cs : List Value} (h : kVol.K w x cs) : ∃ A1 c1, cs = [.string x.name, .slice A1 x.blocks.length c1] ∧ x.blocks.length ≤ c1 ∧ kInt.C w A1 x.blocks.length x.blocks := by
 obtain ⟨_, _, rfl, rfl, ⟨A1, c1, rfl, l1, g1⟩⟩ := h
 exact ⟨A1, c1, rfl, l1, g1⟩
theorem getQ {α} {xs : List α} {k : Nat} (h : k < xs.length) : ∃ x, xs[k]? = some x := ⟨_, List.getElem?_eq_getElem h⟩
theorem ltQ {α} {xs : List α} {k : Nat} {x : α} (h : xs[k]? = some x) : k < xs.length := (List.getElem?_eq_some_iff.1 h).1
theorem take_snoc {α} {xs : List α} {d : α} {k : Nat} (h : xs[k]? = some d) : xs.take (k + 1) = xs.take k ++ [d] := by
 rw [List.take_add_one, h]; rfl
theorem take_all {α} {xs : List α} {k : Nat} (h : ¬ k < xs.length) : xs.take k = xs := List.take_of_length_le (Nat.le_of_not_lt h)
theorem at_slot {w : World} {A : Option Addr} {n : Nat} {xs : List Slot} (h : Kd.C kSlot w A n xs) {i : Nat} {x : Slot} (hx : xs[i]? = some x) : ∃ ad, A = some ad ∧ w.cell? (ad.add (i * 2)) = some (.string x.text) ∧ w.cell? ⟨(ad.add (i * 2)).block, (ad.add (i * 2)).off + 1, none⟩ = some (.int .i64 x.uses) := by
 have hl := h.1 ▸ ltQ hx
 obtain ⟨ad, c, e, _, hK, hc0⟩ := Kd.C_get h Slot.z i (by omega) (by omega)
 have hc : ∀ j u, c[j]? = some u → w.cell? (ad.add (i * 2 + j)) = some u := hc0
 have he : xs.getD (i : Int).toNat Slot.z = x := by rw [List.getD_eq_getElem?_getD, Int.toNat_natCast, hx]; rfl
 rw [he] at hK
 obtain rfl := kSlot_open hK
 exact ⟨ad, e, hc 0 _ rfl, by rw [← add_field _ _ 1 (by omega)]; exact hc 1 _ rfl⟩
theorem at_vol {w : World} {A : Option Addr} {n : Nat} {xs : List Vol} (h : Kd.C kVol w A n xs) {i : Nat} {x : Vol} (hx : xs[i]? = some x) : ∃ ad A1 c1, A = some ad ∧ w.cell? (ad.add (i * 2)) = some (.string x.name) ∧ w.cell? ⟨(ad.add (i * 2)).block, (ad.add (i * 2)).off + 1, none⟩ = some (.slice A1 x.blocks.length c1) ∧ x.blocks.length ≤ c1 ∧ kInt.C w A1 x.blocks.length x.blocks := by
 have hl := h.1 ▸ ltQ hx
 obtain ⟨ad, c, e, _, hK, hc0⟩ := Kd.C_get h Vol.z i (by omega) (by omega)
 have hc : ∀ j u, c[j]? = some u → w.cell? (ad.add (i * 2 + j)) = some u := hc0
 have he : xs.getD (i : Int).toNat Vol.z = x := by rw [List.getD_eq_getElem?_getD, Int.toNat_natCast, hx]; rfl
 rw [he] at hK
 obtain ⟨A1, c1, rfl, l1, g1⟩ := kVol_open hK
 exact ⟨ad, A1, c1, e, hc 0 _ rfl, by rw [← add_field _ _ 1 (by omega)]; exact hc 1 _ rfl, l1, g1⟩
theorem at_int {w : World} {A : Option Addr} {n : Nat} {xs : List Int} (h : kInt.C w A n xs) {i : Nat} {x : Int} (hx : xs[i]? = some x) : ∃ ad, A = some ad ∧ w.cell? (ad.add i) = some (.int .i64 x) := by
 have hl := h.1 ▸ ltQ hx
 obtain ⟨ad, e, hc⟩ := Kd.at_int h i (by omega) (by omega)
 have he : rd xs (i : Int) = x := by unfold rd; rw [List.getD_eq_getElem?_getD, Int.toNat_natCast, hx]; rfl
 rw [he] at hc
 exact ⟨ad, e, hc⟩
theorem C_take {α} {d : Kd α} {w : World} {A : Option Addr} {n : Nat} {xs : List α} (h : d.C w A n xs) (k : Nat) (hk : k ≤ n) : d.C w A k (xs.take k) :=
 ⟨by rw [List.length_take, h.1]; omega, Nat.le_trans hk h.2.1, fun h0 => by
  obtain ⟨ad, e, hc⟩ := h.2.2 (by omega)
  exact ⟨ad, e, fun j p hj => hc j p (by rw [List.getElem?_take] at hj; split at hj <;> simp_all)⟩⟩
abbrev Bel (w w' : World) : Prop := Below w.heap.size w w'
def Ret (v : Value) (w : World) (e : Ending) (w' : World) : Prop := e = .returned v ∧ Bel w w'
def Same (v : Value) (w : World) (e : Ending) (w' : World) : Prop := e = .returned v ∧ w = w'
theorem Bel.tr {a b c : World} (h : Bel a b) (k : Bel b c) : Bel a c := h.trans (k.mono h.size)
theorem bel_alloc {a b : World} (h : Bel a b) (o : Obj) : Bel a (b.alloc o) := h.alloc h.size o
theorem ret_int {k : IntKind} {a b : Int} (h : a = b) : Ending.returned (.int k a) = .returned (.int k b) := by rw [h]
theorem ret_bool {a b : Bool} (h : a = b) : Ending.returned (.bool a) = .returned (.bool b) := by rw [h]
theorem int_eq {k : IntKind} {a b : Int} (h : a = b) : Value.int k a = .int k b := by rw [h]
theorem bcell {W w1 : World} (hb : Bel W w1) : (∀ b o, b < W.heap.size → w1.cell? ⟨b, o, none⟩ = W.cell? ⟨b, o, none⟩) ∧ (∀ b o, b < W.heap.size → w1.frozen? ⟨b, o, none⟩ = W.frozen? ⟨b, o, none⟩) :=
 ⟨fun b o h => hb.cell (p := ⟨b, o, none⟩) h, fun b o h => hb.frozen (p := ⟨b, o, none⟩) h⟩
def Blk (w : World) (b : Nat) (cs : Array Value) (t : TypeId) : Prop := w.heap[b]? = some (.cells cs t (0, 0))
theorem Blk.bel {w w' : World} {b : Nat} {cs : Array Value} {t : TypeId} (h : Blk w b cs t) (hb : Bel w w') : Blk w' b cs t := (hb.block _ (blk_lt h)).trans h
theorem Blk.alloc {w : World} {b : Nat} {cs : Array Value} {t : TypeId} (h : Blk w b cs t) (o : Obj) : Blk (w.alloc o) b cs t := h.bel (bel_alloc (Below.refl _ _) o)
theorem Blk.new (w : World) (cs : Array Value) (t : TypeId) : Blk (w.alloc (.cells cs t)) w.heap.size cs t := heap_alloc_new w _
theorem Blk.cell {w : World} {b : Nat} {cs : Array Value} {t : TypeId} (h : Blk w b cs t) (i : Nat) : w.cell? ⟨b, i, none⟩ = cs[i]? := blk_cell h i
theorem Blk.free {w : World} {b : Nat} {cs : Array Value} {t : TypeId} (h : Blk w b cs t) (i : Nat) : w.frozen? ⟨b, i, none⟩ = false := blk_frozen h i
theorem Blk.lt {w : World} {b : Nat} {cs : Array Value} {t : TypeId} (h : Blk w b cs t) : b < w.heap.size := blk_lt h
theorem k2c {w : World} {b : Nat} {v0 v1 : Value} {t : TypeId} (h : Blk w b #[v0, v1] t) : w.cell? ⟨b, 0, none⟩ = some v0 ∧ w.cell? ⟨b, 1, none⟩ = some v1 ∧ b < w.heap.size := ⟨h.cell 0, h.cell 1, h.lt⟩
theorem k2f {w : World} {b : Nat} {v0 v1 : Value} {t : TypeId} (h : Blk w b #[v0, v1] t) : w.cell? ⟨b, 0, none⟩ = some v0 ∧ w.cell? ⟨b, 1, none⟩ = some v1 ∧ w.frozen? ⟨b, 0, none⟩ = false ∧ w.frozen? ⟨b, 1, none⟩ = false ∧ b < w.heap.size := ⟨h.cell 0, h.cell 1, h.free 0, h.free 1, h.lt⟩
theorem k3c {w : World} {b : Nat} {v0 v1 v2 : Value} {t : TypeId} (h : Blk w b #[v0, v1, v2] t) : w.cell? ⟨b, 0, none⟩ = some v0 ∧ w.cell? ⟨b, 1, none⟩ = some v1 ∧ w.cell? ⟨b, 2, none⟩ = some v2 ∧ b < w.heap.size := ⟨h.cell 0, h.cell 1, h.cell 2, h.lt⟩
theorem k3f {w : World} {b : Nat} {v0 v1 v2 : Value} {t : TypeId} (h : Blk w b #[v0, v1, v2] t) : w.cell? ⟨b, 0, none⟩ = some v0 ∧ w.cell? ⟨b, 1, none⟩ = some v1 ∧ w.cell? ⟨b, 2, none⟩ = some v2 ∧ w.frozen? ⟨b, 0, none⟩ = false ∧ w.frozen? ⟨b, 1, none⟩ = false ∧ w.frozen? ⟨b, 2, none⟩ = false ∧ b < w.heap.size := ⟨h.cell 0, h.cell 1, h.cell 2, h.free 0, h.free 1, h.free 2, h.lt⟩
theorem k4c {w : World} {b : Nat} {v0 v1 v2 v3 : Value} {t : TypeId} (h : Blk w b #[v0, v1, v2, v3] t) : w.cell? ⟨b, 0, none⟩ = some v0 ∧ w.cell? ⟨b, 1, none⟩ = some v1 ∧ w.cell? ⟨b, 2, none⟩ = some v2 ∧ w.cell? ⟨b, 3, none⟩ = some v3 ∧ b < w.heap.size := ⟨h.cell 0, h.cell 1, h.cell 2, h.cell 3, h.lt⟩
theorem k4f {w : World} {b : Nat} {v0 v1 v2 v3 : Value} {t : TypeId} (h : Blk w b #[v0, v1, v2, v3] t) : w.cell? ⟨b, 0, none⟩ = some v0 ∧ w.cell? ⟨b, 1, none⟩ = some v1 ∧ w.cell? ⟨b, 2, none⟩ = some v2 ∧ w.cell? ⟨b, 3, none⟩ = some v3 ∧ w.frozen? ⟨b, 0, none⟩ = false ∧ w.frozen? ⟨b, 1, none⟩ = false ∧ w.frozen? ⟨b, 2, none⟩ = false ∧ w.frozen? ⟨b, 3, none⟩ = false ∧ b < w.heap.size := ⟨h.cell 0, h.cell 1, h.cell 2, h.cell 3, h.free 0, h.free 1, h.free 2, h.free 3, h.lt⟩
theorem k5c {w : World} {b : Nat} {v0 v1 v2 v3 v4 : Value} {t : TypeId} (h : Blk w b #[v0, v1, v2, v3, v4] t) : w.cell? ⟨b, 0, none⟩ = some v0 ∧ w.cell? ⟨b, 1, none⟩ = some v1 ∧ w.cell? ⟨b, 2, none⟩ = some v2 ∧ w.cell? ⟨b, 3, none⟩ = some v3 ∧ w.cell? ⟨b, 4, none⟩ = some v4 ∧ b < w.heap.size := ⟨h.cell 0, h.cell 1, h.cell 2, h.cell 3, h.cell 4, h.lt⟩
theorem k5f {w : World} {b : Nat} {v0 v1 v2 v3 v4 : Value} {t : TypeId} (h : Blk w b #[v0, v1, v2, v3, v4] t) : w.cell? ⟨b, 0, none⟩ = some v0 ∧ w.cell? ⟨b, 1, none⟩ = some v1 ∧ w.cell? ⟨b, 2, none⟩ = some v2 ∧ w.cell? ⟨b, 3, none⟩ = some v3 ∧ w.cell? ⟨b, 4, none⟩ = some v4 ∧ w.frozen? ⟨b, 0, none⟩ = false ∧ w.frozen? ⟨b, 1, none⟩ = false ∧ w.frozen? ⟨b, 2, none⟩ = false ∧ w.frozen? ⟨b, 3, none⟩ = false ∧ w.frozen? ⟨b, 4, none⟩ = false ∧ b < w.heap.size := ⟨h.cell 0, h.cell 1, h.cell 2, h.cell 3, h.cell 4, h.free 0, h.free 1, h.free 2, h.free 3, h.free 4, h.lt⟩
theorem k6c {w : World} {b : Nat} {v0 v1 v2 v3 v4 v5 : Value} {t : TypeId} (h : Blk w b #[v0, v1, v2, v3, v4, v5] t) : w.cell? ⟨b, 0, none⟩ = some v0 ∧ w.cell? ⟨b, 1, none⟩ = some v1 ∧ w.cell? ⟨b, 2, none⟩ = some v2 ∧ w.cell? ⟨b, 3, none⟩ = some v3 ∧ w.cell? ⟨b, 4, none⟩ = some v4 ∧ w.cell? ⟨b, 5, none⟩ = some v5 ∧ b < w.heap.size := ⟨h.cell 0, h.cell 1, h.cell 2, h.cell 3, h.cell 4, h.cell 5, h.lt⟩
theorem k6f {w : World} {b : Nat} {v0 v1 v2 v3 v4 v5 : Value} {t : TypeId} (h : Blk w b #[v0, v1, v2, v3, v4, v5] t) : w.cell? ⟨b, 0, none⟩ = some v0 ∧ w.cell? ⟨b, 1, none⟩ = some v1 ∧ w.cell? ⟨b, 2, none⟩ = some v2 ∧ w.cell? ⟨b, 3, none⟩ = some v3 ∧ w.cell? ⟨b, 4, none⟩ = some v4 ∧ w.cell? ⟨b, 5, none⟩ = some v5 ∧ w.frozen? ⟨b, 0, none⟩ = false ∧ w.frozen? ⟨b, 1, none⟩ = false ∧ w.frozen? ⟨b, 2, none⟩ = false ∧ w.frozen? ⟨b, 3, none⟩ = false ∧ w.frozen? ⟨b, 4, none⟩ = false ∧ w.frozen? ⟨b, 5, none⟩ = false ∧ b < w.heap.size := ⟨h.cell 0, h.cell 1, h.cell 2, h.cell 3, h.cell 4, h.cell 5, h.free 0, h.free 1, h.free 2, h.free 3, h.free 4, h.free 5, h.lt⟩
theorem k7c {w : World} {b : Nat} {v0 v1 v2 v3 v4 v5 v6 : Value} {t : TypeId} (h : Blk w b #[v0, v1, v2, v3, v4, v5, v6] t) : w.cell? ⟨b, 0, none⟩ = some v0 ∧ w.cell? ⟨b, 1, none⟩ = some v1 ∧ w.cell? ⟨b, 2, none⟩ = some v2 ∧ w.cell? ⟨b, 3, none⟩ = some v3 ∧ w.cell? ⟨b, 4, none⟩ = some v4 ∧ w.cell? ⟨b, 5, none⟩ = some v5 ∧ w.cell? ⟨b, 6, none⟩ = some v6 ∧ b < w.heap.size := ⟨h.cell 0, h.cell 1, h.cell 2, h.cell 3, h.cell 4, h.cell 5, h.cell 6, h.lt⟩
theorem k7f {w : World} {b : Nat} {v0 v1 v2 v3 v4 v5 v6 : Value} {t : TypeId} (h : Blk w b #[v0, v1, v2, v3, v4, v5, v6] t) : w.cell? ⟨b, 0, none⟩ = some v0 ∧ w.cell? ⟨b, 1, none⟩ = some v1 ∧ w.cell? ⟨b, 2, none⟩ = some v2 ∧ w.cell? ⟨b, 3, none⟩ = some v3 ∧ w.cell? ⟨b, 4, none⟩ = some v4 ∧ w.cell? ⟨b, 5, none⟩ = some v5 ∧ w.cell? ⟨b, 6, none⟩ = some v6 ∧ w.frozen? ⟨b, 0, none⟩ = false ∧ w.frozen? ⟨b, 1, none⟩ = false ∧ w.frozen? ⟨b, 2, none⟩ = false ∧ w.frozen? ⟨b, 3, none⟩ = false ∧ w.frozen? ⟨b, 4, none⟩ = false ∧ w.frozen? ⟨b, 5, none⟩ = false ∧ w.frozen? ⟨b, 6, none⟩ = false ∧ b < w.heap.size := ⟨h.cell 0, h.cell 1, h.cell 2, h.cell 3, h.cell 4, h.cell 5, h.cell 6, h.free 0, h.free 1, h.free 2, h.free 3, h.free 4, h.free 5, h.free 6, h.lt⟩
theorem k10c {w : World} {b : Nat} {v0 v1 v2 v3 v4 v5 v6 v7 v8 v9 : Value} {t : TypeId} (h : Blk w b #[v0, v1, v2, v3, v4, v5, v6, v7, v8, v9] t) : w.cell? ⟨b, 0, none⟩ = some v0 ∧ w.cell? ⟨b, 1, none⟩ = some v1 ∧ w.cell? ⟨b, 2, none⟩ = some v2 ∧ w.cell? ⟨b, 3, none⟩ = some v3 ∧ w.cell? ⟨b, 4, none⟩ = some v4 ∧ w.cell? ⟨b, 5, none⟩ = some v5 ∧ w.cell? ⟨b, 6, none⟩ = some v6 ∧ w.cell? ⟨b, 7, none⟩ = some v7 ∧ w.cell? ⟨b, 8, none⟩ = some v8 ∧ w.cell? ⟨b, 9, none⟩ = some v9 ∧ b < w.heap.size := ⟨h.cell 0, h.cell 1, h.cell 2, h.cell 3, h.cell 4, h.cell 5, h.cell 6, h.cell 7, h.cell 8, h.cell 9, h.lt⟩
theorem k10f {w : World} {b : Nat} {v0 v1 v2 v3 v4 v5 v6 v7 v8 v9 : Value} {t : TypeId} (h : Blk w b #[v0, v1, v2, v3, v4, v5, v6, v7, v8, v9] t) : w.cell? ⟨b, 0, none⟩ = some v0 ∧ w.cell? ⟨b, 1, none⟩ = some v1 ∧ w.cell? ⟨b, 2, none⟩ = some v2 ∧ w.cell? ⟨b, 3, none⟩ = some v3 ∧ w.cell? ⟨b, 4, none⟩ = some v4 ∧ w.cell? ⟨b, 5, none⟩ = some v5 ∧ w.cell? ⟨b, 6, none⟩ = some v6 ∧ w.cell? ⟨b, 7, none⟩ = some v7 ∧ w.cell? ⟨b, 8, none⟩ = some v8 ∧ w.cell? ⟨b, 9, none⟩ = some v9 ∧ w.frozen? ⟨b, 0, none⟩ = false ∧ w.frozen? ⟨b, 1, none⟩ = false ∧ w.frozen? ⟨b, 2, none⟩ = false ∧ w.frozen? ⟨b, 3, none⟩ = false ∧ w.frozen? ⟨b, 4, none⟩ = false ∧ w.frozen? ⟨b, 5, none⟩ = false ∧ w.frozen? ⟨b, 6, none⟩ = false ∧ w.frozen? ⟨b, 7, none⟩ = false ∧ w.frozen? ⟨b, 8, none⟩ = false ∧ w.frozen? ⟨b, 9, none⟩ = false ∧ b < w.heap.size := ⟨h.cell 0, h.cell 1, h.cell 2, h.cell 3, h.cell 4, h.cell 5, h.cell 6, h.cell 7, h.cell 8, h.cell 9, h.free 0, h.free 1, h.free 2, h.free 3, h.free 4, h.free 5, h.free 6, h.free 7, h.free 8, h.free 9, h.lt⟩
structure GB (w : World) where
  W : World
  h : Bel w W
instance (w : World) : Inhabited (GB w) := ⟨⟨w, Below.refl _ _⟩⟩
theorem wp_region_gb {P : Program} {id : Nat} {Q : Exit → Act → World → Prop} {a : Act} {w : World} {l : List Oper} (hm : P.follows .mixedOrders = true) (hB : Region.lexB .any l.toArray = true)
  (h : wpQuiet P l.toArray (fun w' => ∃ p : GB w, w' = p.W) (fun a' => ∀ w', (∃ p : GB w, w' = p.W) → Q .normal a' w') l a) : (Code.region id l.toArray true).wp P Q a w :=
 wp_region_quiet (C := fun w' => ∃ p : GB w, w' = p.W) hm hB ⟨⟨_, (Below.refl _ _).drew⟩, rfl⟩ (by simpa using h)
theorem gb_cell {w : World} {a : Addr} {v : Value} (h : w.cell? a = some v) (p : GB w) : p.W.cell? a = some v := (p.h.cell (World.block_lt_of_cell? w _ h)).trans h
theorem gb_call {P : Program} {f : FuncId} {args : Array Value} {w : World} {v : Value} {p : GB w} (h : Calls P f args p.W (Ret v p.W)) : Calls P f args p.W fun e w'' => e = .returned v ∧ ∃ q : GB w, w'' = q.W :=
 h.mono fun _ _ ⟨he, hb⟩ => ⟨he, ⟨⟨_, p.h.tr hb⟩, rfl⟩⟩
def inR (a b c : Int) : Bool := decide (b ≤ a) && decide (a ≤ c)
theorem inR_iff {a b c : Int} : inR a b c = true ↔ b ≤ a ∧ a ≤ c := by simp [inR]
theorem inR_no {a b c : Int} : inR a b c = false ↔ ¬ (b ≤ a ∧ a ≤ c) := by rw [← inR_iff]; simp
theorem str_eq {a b : ByteArray} (h : a.toList = b.toList) : a = b := by
 rw [ByteArray.toList_eq, ByteArray.toList_eq] at h
 cases a; cases b; simp at h; rw [h]
def eqS (a b : ByteArray) : Bool := a.toList == b.toList
def e0 : ByteArray := ⟨#[]⟩
theorem size_toList (s : ByteArray) : s.toList.length = s.size := by rw [ByteArray.toList_eq, Array.length_toList]; rfl
theorem toList_nil {s : ByteArray} : s.toList = [] ↔ s = e0 := by
 constructor
 ·intro h; exact str_eq (by rw [h, ByteArray.toList_eq]; rfl)
 ·rintro rfl; rw [ByteArray.toList_eq]; rfl
def ltr (b : UInt8) : Bool := inR (b.toNat : Int) 97 100
def tOk (s : ByteArray) : Bool := s.toList.all ltr && decide (s.size ≤ 4)
theorem all_snoc {α} {xs : List α} {x : α} {k : Nat} (h : xs[k]? = some x) (f : α → Bool) : (xs.take (k + 1)).all f = ((xs.take k).all f && f x) := by
 rw [List.take_add_one, h]; simp
theorem all_no {α} {xs : List α} {x : α} {k : Nat} (h : xs[k]? = some x) (f : α → Bool) (hf : f x = false) : xs.all f = false := by
 rw [List.all_eq_false]
 exact ⟨x, List.mem_of_getElem? h, by simp [hf]⟩
theorem byte_at {s : ByteArray} {k : Nat} (h : k < s.size) : s.toList[k]? = some s[k] := by
 rw [ByteArray.toList_eq, Array.getElem?_toList, Array.getElem?_eq_getElem h]; rfl
def isNm (s : ByteArray) : Bool := s.toList == [65] || (s.toList == [66] || (s.toList == [67] || s.toList == [68]))
theorem isNm_eq {s : ByteArray} : isNm s = (decide (s.size = 1) && (s.toList.all fun b => inR (b.toNat : Int) 65 68)) := by
 rw [← size_toList]
 unfold isNm
 generalize s.toList = l
 match l with
 | [] => simp
 | [b] =>
  have : ∀ b : UInt8, ([b] == [65] || ([b] == [66] || ([b] == [67] || [b] == [68]))) = inR (b.toNat : Int) 65 68 := by
   intro b
   rw [Bool.eq_iff_iff, inR_iff]
   have hb : ∀ c : UInt8, b = c ↔ b.toNat = c.toNat := fun c => UInt8.toNat_inj.symm
   simp [hb]
   omega
  have h := this b
  simp only [List.length_singleton, List.all_cons, List.all_nil, Bool.and_true, decide_true, Bool.true_and]
  exact h
 | a :: b :: l => simp
def allN (f : Nat → Bool) (n : Nat) : Bool := (List.range n).all f
theorem allN_succ (f : Nat → Bool) (n : Nat) : allN f (n + 1) = (allN f n && f n) := by
 unfold allN; rw [List.range_succ, List.all_append]; simp
theorem allN_iff {f : Nat → Bool} {n : Nat} : allN f n = true ↔ ∀ i < n, f i = true := by
 unfold allN; simp
theorem allN_no {f : Nat → Bool} {n k : Nat} (h : k < n) (hf : f k = false) : allN f n = false := by
 cases hh : allN f n
 ·rfl
 ·rw [allN_iff.1 hh k h] at hf; cases hf
def slotOk (x : Slot) : Bool := tOk x.text && inR x.uses 0 99 && ((x.text.toList == []) == (x.uses == 0))
def hasText (t : ByteArray) (s : List Slot) : Bool := s.any fun o => o.text.toList == t.toList
def dupIn (x : Slot) (pre : List Slot) : Bool := !(x.text.toList == []) && hasText x.text pre
def storeAt (s : List Slot) (i : Nat) : Bool := slotOk (s.getD i Slot.z) && !dupIn (s.getD i Slot.z) (s.take i)
def storeOk (s : List Slot) : Bool := allN (storeAt s) s.length && decide (s.length = 8)
theorem getD_of {α} {xs : List α} {k : Nat} {x d : α} (h : xs[k]? = some x) : xs.getD k d = x := by rw [List.getD_eq_getElem?_getD, h]; rfl
theorem storeAt_eq {s : List Slot} {i : Nat} {x : Slot} (h : s[i]? = some x) : storeAt s i = (slotOk x && !dupIn x (s.take i)) := by
 unfold storeAt; rw [getD_of h]
theorem storeOk_len {s : List Slot} (h : storeOk s = true) : s.length = 8 := by
 simp [storeOk] at h; exact h.2
def volOk (v : Vol) : Bool := v.blocks.all (fun p => inR p 0 8) && (isNm v.name && inR (v.blocks.length : Int) 1 6)
def cnt (p : Int) : List Int → Int
 | [] => 0
 | x :: xs => (if x = p then 1 else 0) + cnt p xs
theorem cnt_snoc (p x : Int) (xs : List Int) : cnt p (xs ++ [x]) = cnt p xs + if x = p then 1 else 0 := by
 induction xs with
 | nil => simp [cnt]
 | cons y ys ih => simp only [List.cons_append, cnt, ih]; omega
theorem cnt_le (p : Int) (xs : List Int) : 0 ≤ cnt p xs ∧ cnt p xs ≤ xs.length := by
 induction xs with
 | nil => simp [cnt]
 | cons y ys ih => simp only [cnt, List.length_cons]; split <;> omega
def uses (p : Int) : List Vol → Int
 | [] => 0
 | x :: xs => cnt p x.blocks + uses p xs
theorem uses_snoc (p : Int) (x : Vol) (xs : List Vol) : uses p (xs ++ [x]) = uses p xs + cnt p x.blocks := by
 induction xs with
 | nil => simp [uses]
 | cons y ys ih => simp only [List.cons_append, uses, ih]; omega
structure SmallV (vs : List Vol) : Prop where
  len : vs.length ≤ 1048576
  blocks : ∀ v ∈ vs, v.blocks.length ≤ 1048576
  name : ∀ v ∈ vs, v.name.size ≤ 1048576
theorem SmallV.take {vs : List Vol} (h : SmallV vs) (k : Nat) : SmallV (vs.take k) := ⟨Nat.le_trans (List.length_take_le' _ _) h.len, fun v hv => h.blocks v (List.mem_of_mem_take hv), fun v hv => h.name v (List.mem_of_mem_take hv)⟩
theorem uses_le {p : Int} {vs : List Vol} (h : SmallV vs) : 0 ≤ uses p vs ∧ uses p vs ≤ vs.length * 1048576 := by
 replace h := h.blocks
 induction vs with
 | nil => simp [uses]
 | cons y ys ih =>
  have := ih (fun v hv => h v (List.mem_cons_of_mem _ hv))
  have := h y List.mem_cons_self
  have := cnt_le p y.blocks
  simp only [uses, List.length_cons]
  omega
structure SmallS (s : List Slot) : Prop where
  len : s.length ≤ 1048576
  text : ∀ x ∈ s, x.text.size ≤ 1048576
def volsAt (vs : List Vol) (k : Nat) : Bool := volOk (vs.getD k Vol.z) && !(decide (0 < k) && !Op.bytesLess (vs.getD (k - 1) Vol.z).name.toList (vs.getD k Vol.z).name.toList)
def usesAt (p : Pool) (k : Nat) : Bool := (p.slots.getD k Slot.z).uses == uses (k + 1) p.vols
def poolOk (p : Pool) : Bool := storeOk p.slots && decide (p.vols.length ≤ 4) && allN (volsAt p.vols) p.vols.length && allN (usesAt p) 8
structure SmallP (p : Pool) : Prop where
  slots : SmallS p.slots
  vols : SmallV p.vols
structure PoolIn (w : World) (A0 A1 : Option Addr) (c0 c1 : Nat) (p : Pool) : Prop where
  s : kSlot.C w A0 p.slots.length p.slots
  sc : p.slots.length ≤ c0
  v : kVol.C w A1 p.vols.length p.vols
  vc : p.vols.length ≤ c1
theorem PoolIn.bel {w w' : World} {A0 A1 : Option Addr} {c0 c1 : Nat} {p : Pool} (h : PoolIn w A0 A1 c0 c1 p) (hb : Below w.heap.size w w') : PoolIn w' A0 A1 c0 c1 p :=
 ⟨Kd.C_below h.s hb, h.sc, Kd.C_below h.v hb, h.vc⟩
theorem PoolIn.alloc {w : World} {A0 A1 : Option Addr} {c0 c1 : Nat} {p : Pool} (h : PoolIn w A0 A1 c0 c1 p) (o : Obj) : PoolIn (w.alloc o) A0 A1 c0 c1 p := h.bel (bel_alloc (Below.refl _ _) o)
def idx {α} (f : α → Bool) (xs : List α) : Int := match xs.findIdx? f with | some i => i | none => -1
theorem any_snoc {α} {xs : List α} {x : α} {k : Nat} (h : xs[k]? = some x) (f : α → Bool) : (xs.take (k + 1)).any f = ((xs.take k).any f || f x) := by
 rw [take_snoc h, List.any_append]; simp
theorem idx_hit {α} {xs : List α} {x : α} {k : Nat} {f : α → Bool} (h : xs[k]? = some x) (hn : (xs.take k).any f = false) (hf : f x = true) : idx f xs = k := by
 have h2 : xs.findIdx? f = some k := by
  rw [List.findIdx?_eq_some_iff_getElem]
  obtain ⟨hk, rfl⟩ := List.getElem?_eq_some_iff.1 h
  refine ⟨hk, hf, fun j hj => ?_⟩
  rw [List.any_eq_false] at hn
  exact hn _ (by rw [List.mem_take_iff_getElem]; exact ⟨j, by omega, rfl⟩)
 unfold idx; rw [h2]
theorem idx_none {α} {xs : List α} {f : α → Bool} (h : xs.any f = false) : idx f xs = -1 := by
 have h2 : xs.findIdx? f = none := by
  rw [List.findIdx?_eq_none_iff]; rw [List.any_eq_false] at h; intro x hx; simpa using h x hx
 unfold idx; rw [h2]
theorem idx_bd {α} (f : α → Bool) (xs : List α) : -1 ≤ idx f xs ∧ idx f xs < xs.length ∧ (0 ≤ idx f xs ↔ xs.any f = true) := by
 cases h : xs.any f
 ·rw [idx_none h]; simp; omega
 ·unfold idx
  cases h2 : xs.findIdx? f with
  | none => rw [List.findIdx?_eq_none_iff] at h2; rw [List.any_eq_true] at h; obtain ⟨x, hx, hf⟩ := h; rw [h2 x hx] at hf; cases hf
  | some i => rw [List.findIdx?_eq_some_iff_getElem] at h2; obtain ⟨hi, _⟩ := h2; simp; omega
theorem idx_get {α} {f : α → Bool} {xs : List α} (h : 0 ≤ idx f xs) : ∃ x, xs[(idx f xs).toNat]? = some x ∧ f x = true := by
 unfold idx at *
 cases h2 : xs.findIdx? f with
 | none => rw [h2] at h; simp at h
 | some i => rw [List.findIdx?_eq_some_iff_getElem] at h2; obtain ⟨hi, hf, _⟩ := h2; exact ⟨_, by simp only [Int.toNat_natCast]; exact List.getElem?_eq_getElem hi, hf⟩
def volIdx (vs : List Vol) (name : ByteArray) : Int := idx (fun v => v.name.toList == name.toList) vs
def volAt (vs : List Vol) (i : Int) : Vol := vs.getD i.toNat Vol.z
def hasBlk (vs : List Vol) (name : ByteArray) (b : Int) : Int :=
 if volIdx vs name < 0 then -1 else if inR b 0 ((volAt vs (volIdx vs name)).blocks.length - 1) then volIdx vs name else -1
def lgBlks (vs : List Vol) (name : ByteArray) : Int := if volIdx vs name < 0 then 0 else (volAt vs (volIdx vs name)).blocks.length
def placeAt (vs : List Vol) (name : ByteArray) (b : Int) : Int := (volAt vs (volIdx vs name)).blocks.getD b.toNat 0
def slotText (s : List Slot) (place : Int) : ByteArray := (s.getD (place - 1).toNat Slot.z).text
def readOf (p : Pool) (name : ByteArray) (b : Int) : ByteArray := if 0 < placeAt p.vols name b then slotText p.slots (placeAt p.vols name b) else e0
def readOk (p : Pool) (name : ByteArray) (b : Int) : Bool := decide (0 ≤ hasBlk p.vols name b) && poolOk p
def freeN : List Slot → Int
 | [] => 0
 | x :: xs => (if x.uses = 0 then 1 else 0) + freeN xs
def storeFree (s : List Slot) : Int := if storeOk s then freeN s else -1
theorem volOk_parts {v : Vol} (h : volOk v = true) : (∀ x ∈ v.blocks, 0 ≤ x ∧ x ≤ 8) ∧ isNm v.name = true ∧ 1 ≤ v.blocks.length ∧ v.blocks.length ≤ 6 := by
 simp [volOk, inR] at h; exact ⟨h.1, h.2.1, by omega, by omega⟩
theorem hasBlk_yes {vs : List Vol} {name : ByteArray} {b : Int} (h : 0 ≤ hasBlk vs name b) : hasBlk vs name b = volIdx vs name ∧ 0 ≤ volIdx vs name ∧ ∃ v x, vs[(volIdx vs name).toNat]? = some v ∧ v.name = name ∧ volAt vs (volIdx vs name) = v ∧ 0 ≤ b ∧ v.blocks[b.toNat]? = some x ∧ placeAt vs name b = x := by
 unfold hasBlk at *
 by_cases h1 : volIdx vs name < 0
 ·rw [if_pos h1] at h; omega
 ·rw [if_neg h1] at h ⊢
  cases h2 : inR b 0 ((volAt vs (volIdx vs name)).blocks.length - 1)
  ·rw [h2] at h; simp at h
  ·rw [if_pos rfl]
   obtain ⟨v, hv, hn⟩ := idx_get (f := fun v : Vol => v.name.toList == name.toList) (xs := vs) (show 0 ≤ volIdx vs name by omega)
   have hva : volAt vs (volIdx vs name) = v := getD_of hv
   rw [hva] at h2
   rw [inR_iff] at h2
   obtain ⟨x, hx⟩ := getQ (show b.toNat < v.blocks.length by omega)
   exact ⟨rfl, by omega, v, x, hv, str_eq (by simpa using hn), hva, by omega, hx, by unfold placeAt; rw [hva]; exact getD_of hx⟩
theorem within_c (a b c : Int) (w : World) : Calls Tryz.prog 81 #[.int .i64 a, .int .i64 b, .int .i64 c] w (Same (.bool (inR a b c)) w) := by
 by_cases h : b ≤ a
 all_goals
  have hh := h
  go_enter Tryz.func81, Tryz.ntmps81
  go_wp2
  go_ret
  exact ⟨ret_bool (by simp [inR, hh]; try omega), rfl⟩
theorem l6In_c (a b c : Int) (w : World) : Calls Tryz.prog 38 #[.int .i64 a, .int .i64 b, .int .i64 c] w (Same (.bool (inR a b c)) w) := by
 by_cases h : b ≤ a
 all_goals
  have hh := h
  go_enter Tryz.func38, Tryz.ntmps38
  go_wp2
  go_ret
  exact ⟨ret_bool (by simp [inR, hh]; try omega), rfl⟩
theorem isSlot_c (a : Int) (w : World) : Calls Tryz.prog 170 #[.int .i64 a] w (Same (.bool (inR a 1 8)) w) := by
 go_enter Tryz.func170, Tryz.ntmps170
 go_wp2_with (go_at_call 81; refine (within_c _ _ _ _).mono ?_; rintro e w' ⟨rfl, rfl⟩)
 go_ret
 exact ⟨rfl, rfl⟩
theorem isName_c (s : ByteArray) (w : World) : Calls Tryz.prog 92 #[.string s] w (Same (.bool (isNm s)) w) := by
 cases h1 : s.toList == [65]
 all_goals cases h2 : s.toList == [66]
 all_goals cases h3 : s.toList == [67]
 all_goals
  have g := Lib.hid (show isNm s = _ by unfold isNm; rw [h1, h2, h3])
  go_enter Tryz.func92, Tryz.ntmps92
  go_wp2
  go_ret
  exact ⟨ret_bool (by rw [g.out]; rfl), rfl⟩
theorem byte_le (b : UInt8) : 0 ≤ (b.toNat : Int) ∧ (b.toNat : Int) ≤ 255 := by have := b.toNat_lt; omega
theorem l3Name_c (s : ByteArray) (w : World) (hs : s.size ≤ maxLen) : Calls Tryz.prog 109 #[.string s] w (Same (.bool (isNm s)) w) := by
 unfold maxLen at hs
 by_cases h : s.size = 1
 ·have h0 : 0 < s.size := by omega
  obtain ⟨hb0, hb1⟩ := byte_le s[0]
  have g := Lib.hid (show isNm s = inR (s[0].toNat : Int) 65 68 by
   have hb := byte_at h0
   rw [isNm_eq, h]
   have hl : s.toList.length = 1 := by rw [size_toList, h]
   generalize s.toList = l at hb hl
   match l, hl with
   | [b], _ => simp at hb; simp [hb])
  go_enter Tryz.func109, Tryz.ntmps109
  go_wp2_with (go_at_call 38; refine (l6In_c _ _ _ _).mono ?_; rintro e w' ⟨rfl, rfl⟩)
  go_ret
  exact ⟨ret_bool g.out.symm, rfl⟩
 ·have g := Lib.hid (show isNm s = false by rw [isNm_eq]; simp [h])
  go_enter Tryz.func109, Tryz.ntmps109
  go_wp2
  go_ret
  exact ⟨ret_bool g.out.symm, rfl⟩
theorem tOk_prefix {s : ByteArray} {k : Nat} (h : (s.toList.take k).all ltr = true) (hk : ¬ k < s.size) : tOk s = decide (s.size ≤ 4) := by
 rw [take_all (by rw [size_toList]; exact hk)] at h
 simp [tOk, h]
theorem implTextOk_c (s : ByteArray) (w : World) (hs : s.size ≤ maxLen) : Calls Tryz.prog 89 #[.string s] w (Same (.bool (tOk s)) w) := by
 unfold maxLen at hs
 go_enter Tryz.func89, Tryz.ntmps89
 go_wp2
 go_loop [6] (fun v => ∃ k : Nat, k ≤ s.size ∧ v = .int .i64 k ∧ Hid ((s.toList.take k).all ltr = true)) (fun v => s.size - (intOf v).toNat)
 case atStart => exact ⟨0, Nat.zero_le _, rfl, rfl⟩
 case round =>
  obtain ⟨k, hk, rfl, hall⟩ := hrel
  by_cases hlt : k < s.size
  ·obtain ⟨hb0, hb1⟩ := byte_le s[k]
   cases hb : inR (s[k].toNat : Int) 97 100
   ·have g := Lib.hid (show tOk s = false by simp [tOk, all_no (byte_at hlt) ltr hb])
    go_wp2_with (go_at_call 81; refine (within_c _ _ _ _).mono ?_; rintro e w' ⟨rfl, rfl⟩)
    go_ret
    exact ⟨ret_bool g.out.symm, rfl⟩
   ·have g := Lib.hid (show (s.toList.take (k+1)).all ltr = true by rw [all_snoc (byte_at hlt), hall.out]; exact hb)
    go_wp2_with (go_at_call 81; refine (within_c _ _ _ _).mono ?_; rintro e w' ⟨rfl, rfl⟩)
    go_round
    case rel => exact ⟨k + 1, by omega, by go_num, g⟩
    case measure => simp [intOf]; omega
  ·have g := Lib.hid (tOk_prefix hall.out hlt)
   go_wp2
   go_ret
   exact ⟨ret_bool (by rw [g.out]; first | rfl | (simp; done) | (congr 1; simp; omega)), rfl⟩
theorem specTextOk_c (s : ByteArray) (w : World) (hs : s.size ≤ maxLen) : Calls Tryz.prog 110 #[.string s] w (Same (.bool (tOk s)) w) := by
 unfold maxLen at hs
 go_enter Tryz.func110, Tryz.ntmps110
 go_wp2
 go_loop [3] (fun v => ∃ k : Nat, k ≤ s.size ∧ v = .int .i64 k ∧ Hid ((s.toList.take k).all ltr = true)) (fun v => s.size - (intOf v).toNat)
 case atStart => exact ⟨0, Nat.zero_le _, rfl, rfl⟩
 case round =>
  obtain ⟨k, hk, rfl, hall⟩ := hrel
  by_cases hlt : k < s.size
  ·obtain ⟨hb0, hb1⟩ := byte_le s[k]
   cases hb : inR (s[k].toNat : Int) 97 100
   ·have g := Lib.hid (show tOk s = false by simp [tOk, all_no (byte_at hlt) ltr hb])
    go_wp2_with (go_at_call 38; refine (l6In_c _ _ _ _).mono ?_; rintro e w' ⟨rfl, rfl⟩)
    go_ret
    exact ⟨ret_bool g.out.symm, rfl⟩
   ·have g := Lib.hid (show (s.toList.take (k+1)).all ltr = true by rw [all_snoc (byte_at hlt), hall.out]; exact hb)
    go_wp2_with (go_at_call 38; refine (l6In_c _ _ _ _).mono ?_; rintro e w' ⟨rfl, rfl⟩)
    go_round
    case rel => exact ⟨k + 1, by omega, by go_num, g⟩
    case measure => simp [intOf]; omega
  ·have g := Lib.hid (tOk_prefix hall.out hlt)
   go_wp2
   go_ret
   exact ⟨ret_bool (by rw [g.out]; first | rfl | (simp; done) | (congr 1; simp; omega)), rfl⟩
theorem textNext_c (a : Int) (w : World) (h1 : 1 ≤ a) (h8 : a ≤ 8) : Calls Tryz.prog 163 #[.int .i64 a] w (Same (.int .i64 (a % 8 + 1)) w) := by
 have g : inR a 1 8 = true := by rw [inR_iff]; omega
 go_enter Tryz.func163, Tryz.ntmps163
 go_wp2_with (go_at_call 170; refine (isSlot_c _ _).mono ?_; rintro e w' ⟨rfl, rfl⟩)
 go_ret
 exact ⟨rfl, rfl⟩
theorem l1Next_c (a : Int) (w : World) (h1 : 1 ≤ a) (h8 : a ≤ 8) : Calls Tryz.prog 165 #[.int .i64 a] w (Same (.int .i64 (a % 8 + 1)) w) := by
 go_enter Tryz.func165, Tryz.ntmps165
 go_wp2
 go_ret
 exact ⟨rfl, rfl⟩
theorem volOk_no {v : Vol} {k : Nat} {x : Int} (h : v.blocks[k]? = some x) (hf : inR x 0 8 = false) : volOk v = false := by
 simp [volOk, all_no h (fun p => inR p 0 8) hf]
theorem volOk_end {v : Vol} {k : Nat} (h : (v.blocks.take k).all (fun p => inR p 0 8) = true) (hk : ¬ k < v.blocks.length) : volOk v = (isNm v.name && inR (v.blocks.length : Int) 1 6) := by
 rw [take_all hk] at h
 simp only [volOk, h, Bool.true_and]
theorem implVolOk_c (v : Vol) (A : Option Addr) (c : Nat) (w : World) (hb : kInt.C w A v.blocks.length v.blocks) (hl : v.blocks.length ≤ 1048576) :
  Calls Tryz.prog 59 #[.agg #[.string v.name, .slice A v.blocks.length c]] w (Ret (.bool (volOk v)) w) := by
 have HB := Lib.hid hb
 clear hb
 go_enter Tryz.func59, Tryz.ntmps59
 go_wp2
 go_loop [8] (fun v8 => ∃ k : Nat, k ≤ v.blocks.length ∧ v8 = .int .i64 k ∧ Hid ((v.blocks.take k).all (fun p => inR p 0 8) = true)) (fun v8 => v.blocks.length - (intOf v8).toNat)
 case atStart => exact ⟨0, Nat.zero_le _, rfl, rfl⟩
 case round =>
  obtain ⟨k, hk, rfl, hall⟩ := hrel
  by_cases hlt : k < v.blocks.length
  ·obtain ⟨x, hx⟩ := getQ hlt
   obtain ⟨ad, rfl, hc⟩ := at_int (Kd.C_alloc HB.out (.cells #[.string v.name, .slice A v.blocks.length c] 84)) hx
   cases hr : inR x 0 8
   ·have g := Lib.hid (volOk_no hx hr)
    clear hx
    go_wp2_with (go_at_call 81; refine (within_c _ _ _ _).mono ?_; rintro e w' ⟨rfl, rfl⟩)
    go_ret
    exact ⟨ret_bool g.out.symm, bel_alloc (Below.refl _ _) _⟩
   ·have g := Lib.hid (show ((v.blocks.take (k + 1)).all fun p => inR p 0 8) = true by rw [all_snoc hx, hall.out, hr]; rfl)
    clear hx
    go_wp2_with (go_at_call 81; refine (within_c _ _ _ _).mono ?_; rintro e w' ⟨rfl, rfl⟩)
    go_round
    case rel => exact ⟨k + 1, by omega, by go_num, g⟩
    case measure => simp [intOf]; omega
  ·have g := Lib.hid (volOk_end hall.out hlt)
   cases hn : isNm v.name
   all_goals
    go_wp2_with (first | (go_at_call 81; refine (within_c _ _ _ _).mono ?_; rintro e w' ⟨rfl, rfl⟩) | (go_at_call 92; refine (isName_c _ _).mono ?_; rintro e w' ⟨rfl, rfl⟩))
    go_ret
    exact ⟨ret_bool (by rw [g.out, hn]; rfl), bel_alloc (Below.refl _ _) _⟩
theorem implUses_c (v : Vol) (A : Option Addr) (c : Nat) (p : Int) (w : World) (hb : kInt.C w A v.blocks.length v.blocks) (hl : v.blocks.length ≤ 1048576) :
  Calls Tryz.prog 60 #[.agg #[.string v.name, .slice A v.blocks.length c], .int .i64 p] w (Ret (.int .i64 (cnt p v.blocks)) w) := by
 have HB := Lib.hid hb
 clear hb
 go_enter Tryz.func60, Tryz.ntmps60
 go_wp2
 go_loop [5, 11] (fun v5 v6 => ∃ k : Nat, k ≤ v.blocks.length ∧ v6 = .int .i64 k ∧ v5 = .int .i64 (cnt p (v.blocks.take k))) (fun _ v6 => v.blocks.length - (intOf v6).toNat)
 case atStart => exact ⟨0, Nat.zero_le _, rfl, rfl⟩
 case round =>
  obtain ⟨k, hk, rfl, rfl⟩ := hrel
  have c1 := cnt_le p (v.blocks.take k)
  have c2 : (v.blocks.take k).length ≤ k := List.length_take_le _ _
  by_cases hlt : k < v.blocks.length
  ·obtain ⟨x, hx⟩ := getQ hlt
   obtain ⟨ad, rfl, hc⟩ := at_int (Kd.C_alloc HB.out (.cells #[.string v.name, .slice A v.blocks.length c] 84)) hx
   have H := Lib.hid ((congrArg (cnt p) (take_snoc hx)).trans (cnt_snoc _ _ _))
   clear hx
   go_wp2
   all_goals
    go_round
    case rel => exact ⟨k + 1, by omega, by go_num, int_eq (by rw [H.out]; simp_all)⟩
    case measure => simp [intOf]; omega
  ·have H := Lib.hid (congrArg (cnt p) (take_all hlt))
   go_wp2
   go_ret
   exact ⟨ret_int H.out, bel_alloc (Below.refl _ _) _⟩
theorem storeClo_c (x : Slot) (t : ByteArray) (u : Value) (B : Nat) (T : TypeId) (w : World) (hB : Blk w B #[.string t, u] T) :
  Calls Tryz.prog 91 #[.agg #[.string x.text, .int .i64 x.uses], .pointer (some ⟨B, 0, none⟩)] w (Ret (.bool (x.text.toList == t.toList)) w) := by
 have h0 := hB.cell 0
 have hl := hB.lt
 simp at h0
 go_enter Tryz.func91, Tryz.ntmps91
 go_wp2
 go_ret
 exact ⟨rfl, bel_alloc (Below.refl _ _) _⟩
theorem findClo_c (x : Slot) (t : ByteArray) (B : Nat) (T : TypeId) (w : World) (hB : Blk w B #[.string t] T) :
  Calls Tryz.prog 169 #[.agg #[.string x.text, .int .i64 x.uses], .pointer (some ⟨B, 0, none⟩)] w (Ret (.bool (x.text.toList == t.toList)) w) := by
 have h0 := hB.cell 0
 have hl := hB.lt
 simp at h0
 go_enter Tryz.func169, Tryz.ntmps169
 go_wp2
 go_ret
 exact ⟨rfl, bel_alloc (Below.refl _ _) _⟩
theorem indexStore_c (s : List Slot) (A : Option Addr) (c : Nat) (t : ByteArray) (u : Value) (B : Nat) (T : TypeId) (w : World) (hs : kSlot.C w A s.length s) (hl : s.length ≤ 1048576) (hB : Blk w B #[.string t, u] T) :
  Calls Tryz.prog 118 #[.slice A s.length c, .func (.func 91) #[] #[.pointer (some ⟨B, 0, none⟩)]] w (Ret (.int .i64 (idx (fun o => o.text.toList == t.toList) s)) w) := by
 have HS := Lib.hid hs
 clear hs
 go_enter Tryz.func118, Tryz.ntmps118
 go_wp2
 go_loopg [8] s.length (fun g v W => ∃ k : Nat, g + k = s.length ∧ v = .int .i64 k ∧ Hid ((s.take k).any (fun o => o.text.toList == t.toList) = false) ∧ Bel w W)
 case atStart => exact ⟨0, rfl, rfl, rfl, Below.refl _ _⟩
 case round =>
  obtain ⟨k, hk, rfl, hn, hW⟩ := hrel
  by_cases hlt : k < s.length
  ·obtain ⟨x, hx⟩ := getQ hlt
   obtain ⟨ad, rfl, hc, hc'⟩ := at_slot (Kd.C_below HS.out hW) hx
   cases ht : x.text.toList == t.toList
   ·have g := Lib.hid (show (s.take (k + 1)).any (fun o => o.text.toList == t.toList) = false by rw [any_snoc hx, hn.out, ht]; rfl)
    clear hx
    go_wp2_with (go_at_call 91; refine (storeClo_c x t u B T _ (hB.bel hW)).mono ?_; rintro e w1 ⟨rfl, hb1⟩)
    go_roundg (s.length - (k + 1))
    case measure => omega
    case rel => exact ⟨k + 1, by omega, by go_num, g, hW.tr hb1⟩
   ·have g := Lib.hid (idx_hit (f := fun o : Slot => o.text.toList == t.toList) hx hn.out ht)
    clear hx
    go_wp2_with (go_at_call 91; refine (storeClo_c x t u B T _ (hB.bel hW)).mono ?_; rintro e w1 ⟨rfl, hb1⟩)
    go_ret
    exact ⟨ret_int g.out.symm, hW.tr hb1⟩
  ·have g := Lib.hid (idx_none (take_all hlt ▸ hn.out))
   go_wp2
   go_ret
   exact ⟨ret_int g.out.symm, hW⟩
theorem indexFind_c (s : List Slot) (A : Option Addr) (c : Nat) (t : ByteArray) (B : Nat) (T : TypeId) (w : World) (hs : kSlot.C w A s.length s) (hl : s.length ≤ 1048576) (hB : Blk w B #[.string t] T) :
  Calls Tryz.prog 118 #[.slice A s.length c, .func (.func 169) #[] #[.pointer (some ⟨B, 0, none⟩)]] w (Ret (.int .i64 (idx (fun o => o.text.toList == t.toList) s)) w) := by
 have HS := Lib.hid hs
 clear hs
 go_enter Tryz.func118, Tryz.ntmps118
 go_wp2
 go_loopg [8] s.length (fun g v W => ∃ k : Nat, g + k = s.length ∧ v = .int .i64 k ∧ Hid ((s.take k).any (fun o => o.text.toList == t.toList) = false) ∧ Bel w W)
 case atStart => exact ⟨0, rfl, rfl, rfl, Below.refl _ _⟩
 case round =>
  obtain ⟨k, hk, rfl, hn, hW⟩ := hrel
  by_cases hlt : k < s.length
  ·obtain ⟨x, hx⟩ := getQ hlt
   obtain ⟨ad, rfl, hc, hc'⟩ := at_slot (Kd.C_below HS.out hW) hx
   cases ht : x.text.toList == t.toList
   ·have g := Lib.hid (show (s.take (k + 1)).any (fun o => o.text.toList == t.toList) = false by rw [any_snoc hx, hn.out, ht]; rfl)
    clear hx
    go_wp2_with (go_at_call 169; refine (findClo_c x t B T _ (hB.bel hW)).mono ?_; rintro e w1 ⟨rfl, hb1⟩)
    go_roundg (s.length - (k + 1))
    case measure => omega
    case rel => exact ⟨k + 1, by omega, by go_num, g, hW.tr hb1⟩
   ·have g := Lib.hid (idx_hit (f := fun o : Slot => o.text.toList == t.toList) hx hn.out ht)
    clear hx
    go_wp2_with (go_at_call 169; refine (findClo_c x t B T _ (hB.bel hW)).mono ?_; rintro e w1 ⟨rfl, hb1⟩)
    go_ret
    exact ⟨ret_int g.out.symm, hW.tr hb1⟩
  ·have g := Lib.hid (idx_none (take_all hlt ▸ hn.out))
   go_wp2
   go_ret
   exact ⟨ret_int g.out.symm, hW⟩
theorem contains_c (s : List Slot) (A : Option Addr) (c : Nat) (t : ByteArray) (u : Value) (B : Nat) (T : TypeId) (w : World) (hs : kSlot.C w A s.length s) (hl : s.length ≤ 1048576) (hB : Blk w B #[.string t, u] T) :
  Calls Tryz.prog 90 #[.slice A s.length c, .func (.func 91) #[] #[.pointer (some ⟨B, 0, none⟩)]] w (Ret (.bool (hasText t s)) w) := by
 have HB := Lib.hid hB
 have HS := Lib.hid hs
 have hi := idx_bd (fun o : Slot => o.text.toList == t.toList) s
 have g := Lib.hid hi.2.2
 replace hi : -1 ≤ idx (fun o : Slot => o.text.toList == t.toList) s ∧ idx (fun o : Slot => o.text.toList == t.toList) s < s.length := ⟨hi.1, hi.2.1⟩
 clear hB hs
 go_enter Tryz.func90, Tryz.ntmps90
 go_wp2_with (go_at_call 118; refine (indexStore_c s A c t u B T _ HS.out hl HB.out).mono ?_; rintro e w1 ⟨rfl, hb1⟩)
 go_ret
 exact ⟨ret_bool (by have := g.out; unfold hasText; rw [Bool.eq_iff_iff, decide_eq_true_iff]; exact this), hb1⟩
theorem find_c (s : List Slot) (A : Option Addr) (c : Nat) (t : ByteArray) (w : World) (hs : kSlot.C w A s.length s) (hl : s.length ≤ 1048576) :
  Calls Tryz.prog 161 #[.slice A s.length c, .string t] w (Ret (.int .i64 (idx (fun o => o.text.toList == t.toList) s + 1)) w) := by
 have HS := Lib.hid hs
 have hi := idx_bd (fun o : Slot => o.text.toList == t.toList) s
 replace hi : -1 ≤ idx (fun o : Slot => o.text.toList == t.toList) s ∧ idx (fun o : Slot => o.text.toList == t.toList) s < s.length := ⟨hi.1, hi.2.1⟩
 clear hs
 go_enter Tryz.func161, Tryz.ntmps161
 go_wp2_with (go_at_call 118; refine (indexFind_c s A c t _ _ _ (Kd.C_alloc HS.out _) hl (Blk.new _ _ _)).mono ?_; rintro e w1 ⟨rfl, hb1⟩)
 go_ret
 exact ⟨rfl, (bel_alloc (Below.refl _ _) _).tr hb1⟩
theorem storeOk_no {s : List Slot} {k : Nat} {x : Slot} (h : s[k]? = some x) (hf : (slotOk x && !dupIn x (s.take k)) = false) : storeOk s = false := by
 unfold storeOk
 rw [allN_no (ltQ h) (by rw [storeAt_eq h]; exact hf)]
 rfl
theorem storeOk_step {s : List Slot} {k : Nat} {x : Slot} (h : s[k]? = some x) (hp : allN (storeAt s) k = true) (hf : (slotOk x && !dupIn x (s.take k)) = true) : allN (storeAt s) (k + 1) = true := by
 rw [allN_succ, hp, storeAt_eq h, hf]; rfl
theorem storeOk_end {s : List Slot} {k : Nat} (hp : allN (storeAt s) k = true) (hk : k ≤ s.length) (hk2 : ¬ k < s.length) : storeOk s = decide (s.length = 8) := by
 obtain rfl : k = s.length := by omega
 unfold storeOk; rw [hp]; rfl
theorem slotDup_of {x : Slot} {pre : List Slot} {a b c : Bool} (h1 : tOk x.text = true) (h2 : inR x.uses 0 99 = true) (h3 : (x.text.toList == []) = a) (h4 : (x.uses == 0) = b) (h5 : hasText x.text pre = c) :
  (slotOk x && !dupIn x pre) = ((a == b) && !(!a && c)) := by unfold slotOk dupIn; rw [h1, h2, h3, h4, h5]; rfl
theorem implStoreOk_c (s : List Slot) (A : Option Addr) (c : Nat) (w : World) (hs : kSlot.C w A s.length s) (hcap : s.length ≤ c) (hS : SmallS s) :
    Calls Tryz.prog 58 #[.slice A s.length c] w (Ret (.bool (storeOk s)) w) := by
  have HS := Lib.hid hs
  have HT := Lib.hid hS.text
  have hl := hS.len
  clear hs hS
  go_enter Tryz.func58, Tryz.ntmps58
  go_wp2
  go_loopg [7] s.length (fun g v W => ∃ k : Nat, g + k = s.length ∧ v = .int .i64 k ∧ Hid (allN (storeAt s) k = true) ∧ Bel w W)
  case atStart => exact ⟨0, rfl, rfl, rfl, Below.refl _ _⟩
  case round =>
    obtain ⟨k, hk, rfl, hp, hW⟩ := hrel
    by_cases hlt : k < s.length
    · obtain ⟨x, hx⟩ := getQ hlt
      obtain ⟨ad, rfl, hc, hc'⟩ := at_slot (Kd.C_below HS.out hW) hx
      have hsz : x.text.size ≤ maxLen := Nat.le_trans (HT.out x (List.mem_of_getElem? hx)) (by unfold maxLen; omega)
      have HZ := Lib.hid hsz
      have HX := Lib.hid hx
      have HC := Lib.hid (C_take (Kd.C_below HS.out hW) k (by omega))
      clear hx hsz
      cases h1 : tOk x.text
      · have g := Lib.hid (storeOk_no HX.out (by unfold slotOk; rw [h1]; rfl))
        go_wp2_with (go_at_call 89; refine (implTextOk_c _ _ HZ.out).mono ?_; rintro e w' ⟨rfl, rfl⟩)
        go_ret
        exact ⟨ret_bool g.out.symm, bel_alloc hW _⟩
      cases h2 : inR x.uses 0 99
      · have g := Lib.hid (storeOk_no HX.out (by unfold slotOk; rw [h1, h2]; rfl))
        go_wp2_with (first | (go_at_call 89; refine (implTextOk_c _ _ HZ.out).mono ?_; rintro e w' ⟨rfl, rfl⟩) | (go_at_call 81; refine (within_c _ _ _ _).mono ?_; rintro e w' ⟨rfl, rfl⟩))
        go_ret
        exact ⟨ret_bool g.out.symm, bel_alloc hW _⟩
      cases h3 : x.text.toList == []
      all_goals cases h4 : x.uses == 0
      all_goals cases h5 : hasText x.text (s.take k)
      all_goals
        have HSO := Lib.hid (slotDup_of h1 h2 h3 h4 h5)
        have hkc : k ≤ c := by omega
        have htl : (s.take k).length = k := by rw [List.length_take]; omega
        have HTL := Lib.hid htl
        have HCC : ∀ W B T, Bel wr W → Blk W B #[.string x.text, .int .i64 x.uses] T → Calls Tryz.prog 90 #[.slice (some ad) k c, .func (.func 91) #[] #[.pointer (some ⟨B, 0, none⟩)]] W (Ret (.bool (hasText x.text (s.take k))) W) := fun W B T hb hB => by
          have := contains_c (s.take k) (some ad) c x.text (.int .i64 x.uses) B T W (by rw [htl]; exact Kd.C_below HC.out hb) (by omega) hB
          rw [htl] at this
          exact this
        have HCC' := Lib.hid HCC
        clear HCC htl
        go_wp2_with (first | (go_at_call 89; refine (implTextOk_c _ _ HZ.out).mono ?_; rintro e w' ⟨rfl, rfl⟩) | (go_at_call 81; refine (within_c _ _ _ _).mono ?_; rintro e w' ⟨rfl, rfl⟩) | (go_at_call 90; refine (HCC'.out _ _ _ (bel_alloc (Below.refl _ _) _) (Blk.new _ _ _)).mono ?_; rintro e w1 ⟨rfl, hb1⟩))
        first
          | (go_ret; exact ⟨ret_bool (storeOk_no HX.out HSO.out).symm, by first | exact bel_alloc hW _ | exact (bel_alloc hW _).tr hb1⟩)
          | (go_roundg (s.length - (k + 1))
             case measure => omega
             case rel => exact ⟨k + 1, by omega, by go_num, storeOk_step HX.out hp.out HSO.out, by first | exact bel_alloc hW _ | exact (bel_alloc hW _).tr hb1⟩)
    · have g := Lib.hid (storeOk_end hp.out (by omega) hlt)
      go_wp2
      go_ret
      exact ⟨ret_bool (by rw [g.out, Bool.eq_iff_iff, beq_iff_eq, decide_eq_true_iff]; omega), hW⟩
theorem poolOk_noS {p : Pool} (h : storeOk p.slots = false) : poolOk p = false := by unfold poolOk; rw [h]; rfl
theorem poolOk_noL {p : Pool} (h : ¬ p.vols.length ≤ 4) : poolOk p = false := by unfold poolOk; simp [h]
theorem volsAt_eq {vs : List Vol} {k : Nat} {x : Vol} (h : vs[k]? = some x) : volsAt vs k = (volOk x && !(decide (0 < k) && !Op.bytesLess (vs.getD (k - 1) Vol.z).name.toList x.name.toList)) := by unfold volsAt; rw [getD_of h]
theorem volsAt_eq0 {vs : List Vol} {k : Nat} {x : Vol} (h : vs[k]? = some x) (hk : ¬ 0 < k) : volsAt vs k = volOk x := by rw [volsAt_eq h]; simp [hk]
theorem volsAt_eq1 {vs : List Vol} {k : Nat} {x y : Vol} (h : vs[k]? = some x) (hk : 0 < k) (hy : vs[k - 1]? = some y) : volsAt vs k = (volOk x && Op.bytesLess y.name.toList x.name.toList) := by
 rw [volsAt_eq h, getD_of hy]; simp [hk]
theorem poolOk_noV {p : Pool} {k : Nat} (h : k < p.vols.length) (hf : volsAt p.vols k = false) : poolOk p = false := by
 unfold poolOk; rw [allN_no h hf]; simp
theorem poolOk_noU {p : Pool} {k : Nat} (h : k < 8) (hf : usesAt p k = false) : poolOk p = false := by
 unfold poolOk; rw [allN_no h hf]; simp
theorem poolOk_yes {p : Pool} (h1 : storeOk p.slots = true) (h2 : p.vols.length ≤ 4) (h3 : allN (volsAt p.vols) p.vols.length = true) (h4 : allN (usesAt p) 8 = true) : poolOk p = true := by
 unfold poolOk; rw [h1, h3, h4]; simp [h2]
theorem allN_step {f : Nat → Bool} {k : Nat} (h : allN f k = true) (hf : f k = true) : allN f (k + 1) = true := by rw [allN_succ, h, hf]; rfl
theorem SmallV.at {vs : List Vol} (h : SmallV vs) {k : Nat} {x : Vol} (hx : vs[k]? = some x) : x.blocks.length ≤ 1048576 ∧ x.name.size ≤ 1048576 := ⟨h.blocks x (List.mem_of_getElem? hx), h.name x (List.mem_of_getElem? hx)⟩
theorem usesAt_eq {p : Pool} {k : Nat} {x : Slot} (h : p.slots[k]? = some x) : usesAt p k = (x.uses == uses ((k : Int) + 1) p.vols) := by unfold usesAt; rw [getD_of h]
set_option maxRecDepth 100000 in
theorem implPoolOk_c (p : Pool) (A0 A1 : Option Addr) (c0 c1 : Nat) (w : World) (h0 : kSlot.C w A0 p.slots.length p.slots) (hcap : p.slots.length ≤ c0) (h1 : kVol.C w A1 p.vols.length p.vols) (hs : SmallP p) :
    Calls Tryz.prog 28 #[.agg #[.slice A0 p.slots.length c0, .slice A1 p.vols.length c1]] w (Ret (.bool (poolOk p)) w) := by
  have H0 := Lib.hid h0
  have H1 := Lib.hid h1
  have HP := Lib.hid hs
  have HCAP := Lib.hid hcap
  clear h0 h1 hs hcap
  cases hst : storeOk p.slots
  · have g := Lib.hid (poolOk_noS hst)
    go_enter Tryz.func28, Tryz.ntmps28
    go_wp2_with (go_at_call 58; refine (implStoreOk_c _ _ _ _ (Kd.C_alloc H0.out _) HCAP.out HP.out.slots).mono ?_; rintro e w1 ⟨rfl, hb1⟩)
    go_ret
    exact ⟨ret_bool g.out.symm, (bel_alloc (Below.refl _ _) _).tr hb1⟩
  have H8 := Lib.hid (storeOk_len hst)
  have HST := Lib.hid hst
  by_cases h4 : p.vols.length ≤ 4
  case neg =>
    have g := Lib.hid (poolOk_noL h4)
    go_enter Tryz.func28, Tryz.ntmps28
    go_wp2_with (go_at_call 58; refine (implStoreOk_c _ _ _ _ (Kd.C_alloc H0.out _) HCAP.out HP.out.slots).mono ?_; rintro e w1 ⟨rfl, hb1⟩; obtain ⟨hc1, hf1⟩ := bcell hb1)
    go_ret
    exact ⟨ret_bool g.out.symm, (bel_alloc (Below.refl _ _) _).tr hb1⟩
  go_enter Tryz.func28, Tryz.ntmps28
  go_wp2_with (go_at_call 58; refine (implStoreOk_c _ _ _ _ (Kd.C_alloc H0.out _) HCAP.out HP.out.slots).mono ?_; rintro e w1 ⟨rfl, hb1⟩; obtain ⟨hc1, hf1⟩ := bcell hb1)
  clear hc1 hf1
  go_loopg [22] p.vols.length (fun g v3 W => ∃ k : Nat, g + k = p.vols.length ∧ v3 = .int .i64 k ∧ Hid (allN (volsAt p.vols) k = true) ∧ Blk W w.heap.size #[.slice A0 p.slots.length c0, .slice A1 p.vols.length c1] 44 ∧ Bel w W)
  case atStart => exact ⟨0, rfl, rfl, rfl, (Blk.new _ _ _).bel hb1, (bel_alloc (Below.refl _ _) _).tr hb1⟩
  case round =>
    obtain ⟨k, hk, rfl, hO, hB, hW⟩ := hrel
    by_cases hlt : k < p.vols.length
    · obtain ⟨x, hx⟩ := getQ hlt
      obtain ⟨ad, A2, n1, rfl, hc, hc', hn, hC⟩ := at_vol (Kd.C_below H1.out hW) hx
      obtain ⟨hxb, hxn⟩ := HP.out.vols.at hx
      have HX := Lib.hid hx
      clear hx
      go_wp2
      have hBa : Blk (wr.alloc (.cells #[.string x.name, .slice A2 x.blocks.length n1] 84)) wr.heap.size #[.string x.name, .slice A2 x.blocks.length n1] 84 := Blk.new _ _ _
      have hba : Bel wr (wr.alloc (.cells #[.string x.name, .slice A2 x.blocks.length n1] 84)) := bel_alloc (Below.refl _ _) _
      generalize wr.alloc (.cells #[.string x.name, .slice A2 x.blocks.length n1] 84) = wa at hBa hba ⊢
      have hBb := hB.bel hba
      have hWa := hW.tr hba
      have q0 := hBb.cell 0
      have q1 := hBb.cell 1
      have q2 := hBa.cell 0
      have q3 := hBa.cell 1
      simp at q0 q1 q2 q3
      have g0 := gb_cell q0
      have g1 := gb_cell q1
      have g2 := gb_cell q2
      have g3 := gb_cell q3
      clear q0 q1 q2 q3 hc hc'
      by_cases hk0 : 0 < k
      case neg =>
        cases hv : volOk x
        all_goals
          have HV := Lib.hid ((volsAt_eq0 HX.out hk0).trans hv)
          refine wp_region_gb (by kernel_rfl) (by kernel_rfl) ?_
          repeat (first | go_big_quiet_skip | (go_big_quiet_want; go_big_quiet_op; first | go_big_quiet_on | (apply Exists.intro; refine ⟨fun _ => ?_, ?_⟩; (go_at_call 59; exact gb_call (implVolOk_c x _ _ _ (Kd.C_below hC (hba.tr (GB.h _))) hxb)); go_big_quiet_on)))
          refine wpQuiet_nil ?_
          rintro _ ⟨⟨w2, hb2⟩, rfl⟩
          go_wp2
          first
            | (go_ret; exact ⟨ret_bool (poolOk_noV (ltQ HX.out) HV.out).symm, hWa.tr hb2⟩)
            | (go_roundg (p.vols.length - (k + 1))
               case measure => omega
               case rel => exact ⟨k + 1, by omega, by go_num, allN_step hO.out HV.out, hBb.bel hb2, hWa.tr hb2⟩)
      obtain ⟨y, hy⟩ := getQ (show k - 1 < p.vols.length by omega)
      obtain ⟨ad2, A3, n3, e2, hc2, hc2', hn2, hC2⟩ := at_vol (Kd.C_below H1.out hWa) hy
      cases e2
      have g4 := gb_cell hc2
      have HY := Lib.hid hy
      have hnn : 0 ≤ (k : Int) - 1 := by omega
      have htn : ((k : Int) - 1).toNat = k - 1 := by omega
      have hlt1 : (k : Int) - 1 < p.vols.length := by omega
      clear hy
      cases hv : volOk x
      all_goals cases hlss : Op.bytesLess y.name.toList x.name.toList
      all_goals
        have HV := Lib.hid ((volsAt_eq1 HX.out hk0 HY.out).trans (by rw [hv, hlss]))
        refine wp_region_gb (by kernel_rfl) (by kernel_rfl) ?_
        repeat (first | go_big_quiet_skip | (go_big_quiet_want; go_big_quiet_op; first | go_big_quiet_on | (apply Exists.intro; refine ⟨fun _ => ?_, ?_⟩; (go_at_call 59; exact gb_call (implVolOk_c x _ _ _ (Kd.C_below hC (hba.tr (GB.h _))) hxb)); go_big_quiet_on)))
        refine wpQuiet_nil ?_
        rintro _ ⟨⟨w2, hb2⟩, rfl⟩
        go_wp2
        first
          | (go_ret; exact ⟨ret_bool (poolOk_noV (ltQ HX.out) (HV.out.trans rfl)).symm, hWa.tr hb2⟩)
          | (go_roundg (p.vols.length - (k + 1))
             case measure => omega
             case rel => exact ⟨k + 1, by omega, by go_num, allN_step hO.out (HV.out.trans rfl), hBb.bel hb2, hWa.tr hb2⟩)
    · have HO : Hid (allN (volsAt p.vols) p.vols.length = true) := by obtain rfl : k = p.vols.length := by omega
                                                                      exact hO
      go_wp2
      go_loopg [5] 8 (fun g v4 W => ∃ k : Nat, g + k = 8 ∧ v4 = .int .i64 ((k : Int) + 1) ∧ Hid (allN (usesAt p) k = true) ∧ Blk W w.heap.size #[.slice A0 p.slots.length c0, .slice A1 p.vols.length c1] 44 ∧ Bel w W)
      case atStart => exact ⟨0, rfl, rfl, rfl, hB, hW⟩
      case round =>
        obtain ⟨j, hj, rfl, hU, hB3, hW3⟩ := hrel
        clear hlt
        by_cases hlt : j < 8
        · obtain ⟨x, hx⟩ := getQ (show j < p.slots.length by rw [H8.out]; exact hlt)
          have HU := Lib.hid (usesAt_eq hx)
          have HX := Lib.hid hx
          have hj8 : (j : Int) < p.slots.length := by rw [H8.out]; omega
          have hj8' : j < p.slots.length := by rw [H8.out]; omega
          clear hx
          obtain ⟨q0, q1, hz⟩ := k2c hB3
          have hdj : decide ((j : Int) + 1 ≤ 8) = true := by simp; omega
          go_wp2
          clear hdj
          go_loopg [6, 54] p.vols.length (fun g v6 v54 W => ∃ k : Nat, g + k = p.vols.length ∧ v54 = .int .i64 k ∧ v6 = .int .i64 (uses ((j : Int) + 1) (p.vols.take k)) ∧ Blk W w.heap.size #[.slice A0 p.slots.length c0, .slice A1 p.vols.length c1] 44 ∧ Bel w W)
          case atStart => exact ⟨0, rfl, rfl, rfl, hB3, hW3⟩
          case round =>
            obtain ⟨k, hk, rfl, rfl, hB4, hW4⟩ := hrel
            clear q0 q1 hz
            by_cases hkl : k < p.vols.length
            · obtain ⟨y, hy⟩ := getQ hkl
              obtain ⟨ad, A2, n1, rfl, hc, hc', hn, hC⟩ := at_vol (Kd.C_below H1.out hW4) hy
              have H := Lib.hid ((congrArg (uses ((j : Int) + 1)) (take_snoc hy)).trans (uses_snoc _ _ _))
              obtain ⟨hxb, hxn⟩ := HP.out.vols.at hy
              have d2 := cnt_le ((j : Int) + 1) y.blocks
              have d3 := uses_le (p := (j : Int) + 1) (HP.out.vols.take k)
              have d4 : (p.vols.take k).length ≤ k := List.length_take_le _ _
              clear hy
              go_wp2_with (go_at_call 60; refine (implUses_c y _ _ _ _ (Kd.C_alloc hC _) hxb).mono ?_; rintro e w5 ⟨rfl, hb5⟩)
              go_roundg (p.vols.length - (k + 1))
              case measure => omega
              case rel => exact ⟨k + 1, by omega, by go_num, int_eq H.out.symm, (hB4.alloc _).bel hb5, (bel_alloc hW4 _).tr hb5⟩
            · have H := Lib.hid (congrArg (uses ((j : Int) + 1)) (take_all hkl))
              obtain ⟨q0, q1, hz⟩ := k2c hB4
              obtain ⟨ad, rfl, hc, hc'⟩ := at_slot (Kd.C_below H0.out hW4) HX.out
              obtain ⟨u, hu, hue⟩ : ∃ u, u = uses ((j : Int) + 1) p.vols ∧ uses ((j : Int) + 1) (p.vols.take k) = u := ⟨_, rfl, H.out⟩
              have HU2 := Lib.hid hu
              clear hu
              rw [hue]
              clear hue H
              cases he : u == x.uses
              all_goals first
                | have he' : (u != x.uses) = true := by rw [bne, he]; rfl
                | have he' : (u != x.uses) = false := by rw [bne, he]; rfl
              all_goals have HE := Lib.hid (HU.out.trans ((congrArg (x.uses == ·) HU2.out.symm).trans (BEq.comm.trans he)))
              all_goals clear he
              all_goals
                go_wp2
                first
                  | (go_ret; exact ⟨ret_bool (poolOk_noU hlt HE.out).symm, hW4⟩)
                  | (go_roundg (8 - (j + 1))
                     case measure => omega
                     case rel => exact ⟨j + 1, by omega, by go_num, allN_step hU.out HE.out, hB4, hW4⟩)
        · have g : Hid (poolOk p = true) := by
            obtain rfl : j = 8 := by omega
            exact poolOk_yes HST.out h4 HO.out hU.out
          go_wp2
          go_ret
          exact ⟨ret_bool g.out.symm, hW3⟩
theorem implPoolOk_in {p : Pool} {A0 A1 : Option Addr} {c0 c1 : Nat} {w : World} (h : PoolIn w A0 A1 c0 c1 p) (hs : SmallP p) :
  Calls Tryz.prog 28 #[.agg #[.slice A0 p.slots.length c0, .slice A1 p.vols.length c1]] w (Ret (.bool (poolOk p)) w) := implPoolOk_c p A0 A1 c0 c1 w h.s h.sc h.v hs
theorem Blk.new2 (w : World) (o : Obj) (cs : Array Value) (t : TypeId) : Blk ((w.alloc o).alloc (.cells cs t)) (w.heap.size + 1) cs t := by
 have := Blk.new (w.alloc o) cs t
 rwa [show (w.alloc o).heap.size = w.heap.size + 1 by simp] at this
theorem volClo_c (x : Vol) (v1 : Value) (t : ByteArray) (B : Nat) (T : TypeId) (w : World) (hB : Blk w B #[.string t] T) :
  Calls Tryz.prog 156 #[.agg #[.string x.name, v1], .pointer (some ⟨B, 0, none⟩)] w (Ret (.bool (x.name.toList == t.toList)) w) := by
 have h0 := hB.cell 0
 have hl := hB.lt
 simp at h0
 go_enter Tryz.func156, Tryz.ntmps156
 go_wp2
 go_ret
 exact ⟨rfl, bel_alloc (Below.refl _ _) _⟩
theorem indexVol_c (s : List Vol) (A : Option Addr) (c : Nat) (t : ByteArray) (B : Nat) (T : TypeId) (w : World) (hs : kVol.C w A s.length s) (hl : s.length ≤ 1048576) (hB : Blk w B #[.string t] T) :
  Calls Tryz.prog 155 #[.slice A s.length c, .func (.func 156) #[] #[.pointer (some ⟨B, 0, none⟩)]] w (Ret (.int .i64 (volIdx s t)) w) := by
 have HS := Lib.hid hs
 clear hs
 go_enter Tryz.func155, Tryz.ntmps155
 go_wp2
 go_loopg [8] s.length (fun g v W => ∃ k : Nat, g + k = s.length ∧ v = .int .i64 k ∧ Hid ((s.take k).any (fun o => o.name.toList == t.toList) = false) ∧ Bel w W)
 case atStart => exact ⟨0, rfl, rfl, rfl, Below.refl _ _⟩
 case round =>
  obtain ⟨k, hk, rfl, hn, hW⟩ := hrel
  by_cases hlt : k < s.length
  ·obtain ⟨x, hx⟩ := getQ hlt
   obtain ⟨ad, A2, n2, rfl, hc, hc', _, _⟩ := at_vol (Kd.C_below HS.out hW) hx
   cases ht : x.name.toList == t.toList
   ·have g := Lib.hid (show (s.take (k + 1)).any (fun o => o.name.toList == t.toList) = false by rw [any_snoc hx, hn.out, ht]; rfl)
    clear hx
    go_wp2_with (go_at_call 156; refine (volClo_c x _ t B T _ (hB.bel hW)).mono ?_; rintro e w1 ⟨rfl, hb1⟩)
    go_roundg (s.length - (k + 1))
    case measure => omega
    case rel => exact ⟨k + 1, by omega, by go_num, g, hW.tr hb1⟩
   ·have g := Lib.hid (idx_hit (f := fun o : Vol => o.name.toList == t.toList) hx hn.out ht)
    clear hx
    go_wp2_with (go_at_call 156; refine (volClo_c x _ t B T _ (hB.bel hW)).mono ?_; rintro e w1 ⟨rfl, hb1⟩)
    go_ret
    exact ⟨ret_int g.out.symm, hW.tr hb1⟩
  ·have g := Lib.hid (idx_none (take_all hlt ▸ hn.out))
   go_wp2
   go_ret
   exact ⟨ret_int g.out.symm, hW⟩
theorem vol_c (v0 : Value) (vs : List Vol) (A : Option Addr) (c : Nat) (t : ByteArray) (w : World) (hs : kVol.C w A vs.length vs) (hl : vs.length ≤ 1048576) :
  Calls Tryz.prog 143 #[.agg #[v0, .slice A vs.length c], .string t] w (Ret (.int .i64 (volIdx vs t)) w) := by
 have HS := Lib.hid hs
 clear hs
 go_enter Tryz.func143, Tryz.ntmps143
 go_wp2_with (go_at_call 155; refine (indexVol_c vs A c t _ _ _ (Kd.C_alloc (Kd.C_alloc HS.out _) _) hl (Blk.new2 _ _ _ _)).mono ?_; rintro e w1 ⟨rfl, hb1⟩)
 go_ret
 exact ⟨rfl, (bel_alloc (bel_alloc (Below.refl _ _) _) _).tr hb1⟩
theorem l11At_c (v0 : Value) (vs : List Vol) (A : Option Addr) (c : Nat) (t : ByteArray) (w : World) (hs : kVol.C w A vs.length vs) (hl : vs.length ≤ 1048576) :
  Calls Tryz.prog 133 #[.agg #[v0, .slice A vs.length c], .string t] w (Ret (.int .i64 (volIdx vs t)) w) := by
 have HS := Lib.hid hs
 clear hs
 go_enter Tryz.func133, Tryz.ntmps133
 go_wp2
 go_loop [5] (fun v => ∃ k : Nat, k ≤ vs.length ∧ v = .int .i64 k ∧ Hid ((vs.take k).any (fun o => o.name.toList == t.toList) = false)) (fun v => vs.length - (intOf v).toNat)
 case atStart => exact ⟨0, Nat.zero_le _, rfl, rfl⟩
 case round =>
  obtain ⟨k, hk, rfl, hn⟩ := hrel
  by_cases hlt : k < vs.length
  ·obtain ⟨x, hx⟩ := getQ hlt
   obtain ⟨ad, A2, n2, rfl, hc, hc', _, _⟩ := at_vol (Kd.C_alloc HS.out (.cells #[v0, .slice A vs.length c] 44)) hx
   cases ht : x.name.toList == t.toList
   ·have g := Lib.hid (show (vs.take (k + 1)).any (fun o => o.name.toList == t.toList) = false by rw [any_snoc hx, hn.out, ht]; rfl)
    clear hx
    go_wp2
    go_round
    case rel => exact ⟨k + 1, by omega, by go_num, g⟩
    case measure => simp [intOf]; omega
   ·have g := Lib.hid (idx_hit (f := fun o : Vol => o.name.toList == t.toList) hx hn.out ht)
    clear hx
    go_wp2
    go_ret
    exact ⟨ret_int g.out.symm, bel_alloc (Below.refl _ _) _⟩
  ·have g := Lib.hid (idx_none (take_all hlt ▸ hn.out))
   go_wp2
   go_ret
   exact ⟨ret_int g.out.symm, bel_alloc (Below.refl _ _) _⟩
theorem volIdx_bd (vs : List Vol) (t : ByteArray) : -1 ≤ volIdx vs t ∧ volIdx vs t < vs.length := ⟨(idx_bd _ _).1, (idx_bd _ _).2.1⟩
theorem hasBlk_neg {vs : List Vol} {t : ByteArray} {b : Int} (h : volIdx vs t < 0) : hasBlk vs t b = -1 := by unfold hasBlk; rw [if_pos h]
theorem hasBlk_at {vs : List Vol} {t : ByteArray} {b : Int} {k : Nat} {x : Vol} (h : volIdx vs t = k) (hx : vs[k]? = some x) : hasBlk vs t b = if inR b 0 ((x.blocks.length : Int) - 1) then (k : Int) else -1 := by
 unfold hasBlk volAt; rw [h, if_neg (by omega), Int.toNat_natCast, getD_of hx]
theorem hasBlock_c {p : Pool} {A0 A1 : Option Addr} {c0 c1 : Nat} {w : World} (h : PoolIn w A0 A1 c0 c1 p) (hs : SmallP p) (t : ByteArray) (b : Int) :
  Calls Tryz.prog 146 #[.agg #[.slice A0 p.slots.length c0, .slice A1 p.vols.length c1], .string t, .int .i64 b] w (Ret (.int .i64 (hasBlk p.vols t b)) w) := by
 have H := Lib.hid h
 have hl := hs.vols.len
 have HV := Lib.hid hs.vols
 clear h hs
 have hi := volIdx_bd p.vols t
 by_cases hneg : volIdx p.vols t < 0
 ·have g := Lib.hid (hasBlk_neg (b := b) hneg)
  go_enter Tryz.func146, Tryz.ntmps146
  go_wp2_with (go_at_call 143; refine (vol_c _ p.vols _ _ t _ (Kd.C_alloc H.out.v _) hl).mono ?_; rintro e w1 ⟨rfl, hb1⟩)
  go_ret
  exact ⟨ret_int g.out.symm, (bel_alloc (Below.refl _ _) _).tr hb1⟩
 ·obtain ⟨k, hk⟩ : ∃ k : Nat, volIdx p.vols t = k := ⟨(volIdx p.vols t).toNat, by omega⟩
  obtain ⟨x, hx⟩ := getQ (show k < p.vols.length by omega)
  have hkl : k < p.vols.length := by omega
  obtain ⟨hxb, _⟩ := HV.out.at hx
  have HX := Lib.hid hx
  have g := Lib.hid (hasBlk_at (b := b) hk hx)
  have hvc := Lib.hid (fun W (hC : kVol.C W A1 p.vols.length p.vols) => (hk ▸ vol_c (.slice A0 p.slots.length c0) p.vols A1 c1 t W hC hl : Calls Tryz.prog 143 #[.agg #[.slice A0 p.slots.length c0, .slice A1 p.vols.length c1], .string t] W (Ret (.int .i64 k) W)))
  clear hx hneg hi hk
  cases hr : inR b 0 ((x.blocks.length : Int) - 1)
  all_goals
   have g2 := Lib.hid (g.out.trans (by rw [hr]))
   go_enter Tryz.func146, Tryz.ntmps146
   go_wp2_with (first | (go_at_call 143; refine (hvc.out _ (Kd.C_alloc H.out.v _)).mono ?_; rintro e w1 ⟨rfl, hb1⟩; obtain ⟨hc1, hf1⟩ := bcell hb1; obtain ⟨ad, A2, n2, rfl, hc, hc', _, _⟩ := at_vol (Kd.C_below (Kd.C_alloc H.out.v _) hb1) HX.out) | (go_at_call 81; refine (within_c _ _ _ _).mono ?_; rintro e w' ⟨rfl, rfl⟩))
   go_ret
   exact ⟨ret_int (by rw [g2.out]; rfl), (bel_alloc (Below.refl _ _) _).tr hb1⟩
def readV (p : Pool) (t : ByteArray) (b : Int) : ByteArray := if readOk p t b then readOf p t b else e0
theorem storeFree_yes {s : List Slot} (h : storeOk s = true) : storeFree s = freeN s := by unfold storeFree; rw [h]; rfl
def emp (t : ByteArray) : Bool := t.toList.isEmpty
def opRest (o : Op) : Bool :=
 if o.kind = 1 then emp o.dest && (inR o.n 1 6 && emp o.text)
 else if o.kind = 2 then emp o.dest && (inR o.n 0 5 && tOk o.text)
 else if o.kind = 3 then isNm o.dest && (decide (o.n = 0) && emp o.text)
 else if o.kind = 4 then emp o.dest && (decide (o.n = 0) && emp o.text)
 else false
def opOk (o : Op) : Bool := isNm o.name && opRest o
def opV (o : Op) : Value := .agg #[.int .i64 o.kind, .string o.name, .string o.dest, .int .i64 o.n, .string o.text]
structure SmallO (o : Op) : Prop where
  name : o.name.size ≤ 1048576
  dest : o.dest.size ≤ 1048576
  text : o.text.size ≤ 1048576
theorem max_of {n : Nat} (h : n ≤ 1048576) : n ≤ maxLen := by unfold maxLen; omega
theorem specOpOk_c (o : Op) (hs : SmallO o) (w : World) : Calls Tryz.prog 79 #[.agg #[.int .i64 o.kind, .string o.name, .string o.dest, .int .i64 o.n, .string o.text]] w (Ret (.bool (opOk o)) w) := by
 have hn := max_of hs.name
 have hd := max_of hs.dest
 have ht := max_of hs.text
 obtain ⟨kd, nm, ds, n, tx⟩ := o
 simp only at hn hd ht
 have HN := Lib.hid hn
 have HD := Lib.hid hd
 have HT := Lib.hid ht
 clear hn hd ht hs
 cases h0 : isNm nm with
 | false =>
  have HG := Lib.hid (show opOk ⟨kd, nm, ds, n, tx⟩ = false by unfold opOk; rw [h0]; rfl)
  go_enter Tryz.func79, Tryz.ntmps79
  go_wp2_with (go_at_call 109; refine (l3Name_c nm _ HN.out).mono ?_; rintro e w' ⟨rfl, rfl⟩)
  go_ret
  exact ⟨ret_bool HG.out.symm, bel_alloc (Below.refl _ _) _⟩
 | true =>
  have hno : ∀ b, opRest ⟨kd, nm, ds, n, tx⟩ = b → opOk ⟨kd, nm, ds, n, tx⟩ = b := fun b hb => by unfold opOk; rw [h0, hb]; rfl
  have HNO := Lib.hid hno
  clear hno
  by_cases h1 : kd = 1
  ·subst h1
   cases hx1 : ds.toList.isEmpty
   all_goals cases hx2 : inR n 1 6
   all_goals cases hx3 : tx.toList.isEmpty
   all_goals
    have HG := Lib.hid (show opRest ⟨1, nm, ds, n, tx⟩ = _ by unfold opRest emp; simp only [if_true, hx1, hx2, hx3]; rfl)
    go_enter Tryz.func79, Tryz.ntmps79
    go_wp2_with fail
    refine (l3Name_c nm _ HN.out).mono ?_
    rintro e w1 ⟨rfl, rfl⟩
    go_wp2_with (first | (go_at_call 38; refine (l6In_c _ _ _ _).mono ?_; rintro e w' ⟨rfl, rfl⟩) | (go_at_call 110; refine (specTextOk_c tx _ HT.out).mono ?_; rintro e w' ⟨rfl, rfl⟩) | (go_at_call 109; refine (l3Name_c ds _ HD.out).mono ?_; rintro e w' ⟨rfl, rfl⟩))
    go_ret
    exact ⟨ret_bool (HNO.out _ HG.out).symm, bel_alloc (Below.refl _ _) _⟩
  by_cases h2 : kd = 2
  ·subst h2
   cases hx1 : ds.toList.isEmpty
   all_goals cases hx2 : inR n 0 5
   all_goals cases hx3 : tOk tx
   all_goals
    have HG := Lib.hid (show opRest ⟨2, nm, ds, n, tx⟩ = _ by unfold opRest emp; simp only [show ¬ ((2 : Int) = 1) by decide, if_false, if_true, hx1, hx2, hx3]; rfl)
    go_enter Tryz.func79, Tryz.ntmps79
    go_wp2_with fail
    refine (l3Name_c nm _ HN.out).mono ?_
    rintro e w1 ⟨rfl, rfl⟩
    go_wp2_with (first | (go_at_call 38; refine (l6In_c _ _ _ _).mono ?_; rintro e w' ⟨rfl, rfl⟩) | (go_at_call 110; refine (specTextOk_c tx _ HT.out).mono ?_; rintro e w' ⟨rfl, rfl⟩) | (go_at_call 109; refine (l3Name_c ds _ HD.out).mono ?_; rintro e w' ⟨rfl, rfl⟩))
    go_ret
    exact ⟨ret_bool (HNO.out _ HG.out).symm, bel_alloc (Below.refl _ _) _⟩
  by_cases h3 : kd = 3
  ·subst h3
   cases hx1 : isNm ds
   all_goals by_cases hx2 : n = 0
   all_goals cases hx3 : tx.toList.isEmpty
   all_goals
    have HG := Lib.hid (show opRest ⟨3, nm, ds, n, tx⟩ = _ by unfold opRest emp; simp only [show ¬ ((3 : Int) = 1) by decide, show ¬ ((3 : Int) = 2) by decide, if_false, if_true, hx1, hx2, hx3, decide_true, decide_false]; rfl)
    try subst hx2
    go_enter Tryz.func79, Tryz.ntmps79
    go_wp2_with fail
    refine (l3Name_c nm _ HN.out).mono ?_
    rintro e w1 ⟨rfl, rfl⟩
    go_wp2_with (first | (go_at_call 38; refine (l6In_c _ _ _ _).mono ?_; rintro e w' ⟨rfl, rfl⟩) | (go_at_call 110; refine (specTextOk_c tx _ HT.out).mono ?_; rintro e w' ⟨rfl, rfl⟩) | (go_at_call 109; refine (l3Name_c ds _ HD.out).mono ?_; rintro e w' ⟨rfl, rfl⟩))
    go_ret
    exact ⟨ret_bool (HNO.out _ HG.out).symm, bel_alloc (Below.refl _ _) _⟩
  by_cases h4 : kd = 4
  ·subst h4
   cases hx1 : ds.toList.isEmpty
   all_goals by_cases hx2 : n = 0
   all_goals cases hx3 : tx.toList.isEmpty
   all_goals
    have HG := Lib.hid (show opRest ⟨4, nm, ds, n, tx⟩ = _ by unfold opRest emp; simp only [show ¬ ((4 : Int) = 1) by decide, show ¬ ((4 : Int) = 2) by decide, show ¬ ((4 : Int) = 3) by decide, if_false, if_true, hx1, hx2, hx3, decide_true, decide_false]; rfl)
    try subst hx2
    go_enter Tryz.func79, Tryz.ntmps79
    go_wp2_with fail
    refine (l3Name_c nm _ HN.out).mono ?_
    rintro e w1 ⟨rfl, rfl⟩
    go_wp2_with (first | (go_at_call 38; refine (l6In_c _ _ _ _).mono ?_; rintro e w' ⟨rfl, rfl⟩) | (go_at_call 110; refine (specTextOk_c tx _ HT.out).mono ?_; rintro e w' ⟨rfl, rfl⟩) | (go_at_call 109; refine (l3Name_c ds _ HD.out).mono ?_; rintro e w' ⟨rfl, rfl⟩))
    go_ret
    exact ⟨ret_bool (HNO.out _ HG.out).symm, bel_alloc (Below.refl _ _) _⟩
  have HG := Lib.hid (show opRest ⟨kd, nm, ds, n, tx⟩ = false by unfold opRest; simp only [h1, h2, h3, h4, if_false])
  go_enter Tryz.func79, Tryz.ntmps79
  go_wp2_with fail
  refine (l3Name_c nm _ HN.out).mono ?_
  rintro e w1 ⟨rfl, rfl⟩
  go_wp2_with (first | (go_at_call 38; refine (l6In_c _ _ _ _).mono ?_; rintro e w' ⟨rfl, rfl⟩) | (go_at_call 110; refine (specTextOk_c tx _ HT.out).mono ?_; rintro e w' ⟨rfl, rfl⟩) | (go_at_call 109; refine (l3Name_c ds _ HD.out).mono ?_; rintro e w' ⟨rfl, rfl⟩))
  go_ret
  exact ⟨ret_bool (HNO.out _ HG.out).symm, bel_alloc (Below.refl _ _) _⟩
section flat
variable {α β : Type} {enc : α → List β} {sz : Nat}
theorem flat_len (hl : ∀ x, (enc x).length = sz) (xs : List α) : (xs.flatMap enc).length = xs.length * sz := by
 induction xs with
 | nil => simp
 | cons y ys ih => simp only [List.flatMap_cons, List.length_append, hl, ih, List.length_cons, Nat.add_mul]; omega
theorem flat_get (hl : ∀ x, (enc x).length = sz) {xs : List α} {i j : Nat} {x : α} (h : xs[i]? = some x) (hj : j < sz) : (xs.flatMap enc)[i * sz + j]? = (enc x)[j]? := by
 induction xs generalizing i with
 | nil => simp at h
 | cons y ys ih =>
  rw [List.flatMap_cons]
  cases i with
  | zero =>
   simp at h; subst h
   rw [Nat.zero_mul, Nat.zero_add, List.getElem?_append_left (by rw [hl]; exact hj)]
  | succ i =>
   rw [List.getElem?_append_right (by rw [hl, Nat.succ_mul]; omega), hl, show (i + 1) * sz + j - sz = i * sz + j by rw [Nat.succ_mul]; omega]
   exact ih (by simpa using h)
theorem flat_seg (hl : ∀ x, (enc x).length = sz) {xs : List α} {i : Nat} {x : α} (h : xs[i]? = some x) : ((xs.flatMap enc).drop (i * sz)).take sz = enc x := by
 apply List.ext_getElem?
 intro j
 rw [List.getElem?_take]
 split
 ·rename_i hj; rw [List.getElem?_drop, flat_get hl h hj]
 ·rename_i hj; rw [List.getElem?_eq_none]; rw [hl]; omega
theorem flat_set (hl : ∀ x, (enc x).length = sz) {xs : List α} {i j : Nat} {x y : α} {u : β} (h : xs[i]? = some x) (hj : j < sz) (he : enc y = (enc x).set j u) : (xs.flatMap enc).set (i * sz + j) u = (xs.set i y).flatMap enc := by
 induction xs generalizing i with
 | nil => simp at h
 | cons z zs ih =>
  cases i with
  | zero =>
   simp at h; subst h
   rw [List.flatMap_cons, Nat.zero_mul, Nat.zero_add, List.set_append, if_pos (by rw [hl]; exact hj), List.set_cons_zero, List.flatMap_cons, he]
  | succ i =>
   rw [List.flatMap_cons, List.set_append, if_neg (by rw [hl, Nat.succ_mul]; omega), hl, show (i + 1) * sz + j - sz = i * sz + j by rw [Nat.succ_mul]; omega, List.set_cons_succ, List.flatMap_cons, ih (by simpa using h)]
end flat
def encS (x : Slot) : List Value := [.string x.text, .int .i64 x.uses]
def encI (x : Int) : List Value := [.int .i64 x]
def encV (x : Vol × Value) : List Value := [.string x.1.name, x.2]
theorem encS_len (x : Slot) : (encS x).length = 2 := rfl
theorem encI_len (x : Int) : (encI x).length = 1 := rfl
theorem encV_len (x : Vol × Value) : (encV x).length = 2 := rfl
abbrev Grown (w w' : World) (v : Value) : Prop := w.grownBy w' v.ownBlock
theorem grown_refl (w : World) (r : Option Nat) : w.grownBy w r := ⟨rfl, rfl, rfl, Nat.le_refl _, fun _ _ _ => rfl⟩
theorem grown_of_bel {w w' : World} (h : Bel w w') (r : Option Nat) : w.grownBy w' r := ⟨h.os, h.tape, h.output, h.size, fun k hk _ => h.block k hk⟩
theorem grown_tr {a b c : World} {r : Option Nat} (h : a.grownBy b r) (k : b.grownBy c r) : a.grownBy c r :=
 ⟨k.os.trans h.os, k.tape.trans h.tape, k.output.trans h.output, Nat.le_trans h.size k.size, fun i hi hr => (k.block i (Nat.lt_of_lt_of_le hi h.size) hr).trans (h.block i hi hr)⟩
theorem own_form {w : World} {base : Nat} {e : TypeId} {sz n : Nat} {v : Value} {xs : List Value} (h : w.ownsRow base e sz v n xs) (hn : 0 < n) : ∃ g cap, v = .slice (some ⟨g, 0, none⟩) n cap ∧ base ≤ g ∧ g < w.heap.size ∧ n ≤ cap := by
 rcases h.2 with ⟨_, h0⟩ | ⟨g, cap, cur, rfl, hb, hg, hc, _⟩
 ·omega
 ·exact ⟨g, cap, rfl, hb, (Array.getElem?_eq_some_iff.1 hg).1, hc⟩
theorem own_cap {w : World} {base : Nat} {e : TypeId} {sz n : Nat} {v : Value} {xs : List Value} (h : w.ownsRow base e sz v n xs) : ∃ A c, v = .slice A n c ∧ n ≤ c := by
 rcases h.2 with ⟨rfl, rfl⟩ | ⟨g, cap, cur, rfl, hb, hg, hc, _⟩
 ·exact ⟨none, 0, rfl, Nat.le_refl _⟩
 ·exact ⟨_, cap, rfl, hc⟩
theorem reps_flat {α : Type} {R : α → List Value → Prop} {enc : α → List Value} {sz : Nat} (hl : ∀ x, (enc x).length = sz) (xs : List α) (hR : ∀ x ∈ xs, R x (enc x)) : Reps R sz xs (xs.flatMap enc) :=
 ⟨flat_len hl xs, fun j p hp => by rw [flat_seg hl hp]; exact hR p (List.mem_of_getElem? hp)⟩
theorem kSlot_mk (w : World) (x : Slot) : kSlot.K w x (encS x) := ⟨[.string x.text], [.int .i64 x.uses], rfl, rfl, rfl⟩
def OwnS (w : World) (base : Nat) (v : Value) (s : List Slot) : Prop := w.ownsRow base 90 2 v s.length (s.flatMap encS)
theorem OwnS.reads {w : World} {base : Nat} {v : Value} {s : List Slot} (h : OwnS w base v s) : ∃ A c, v = .slice A s.length c ∧ s.length ≤ c ∧ kSlot.C w A s.length s := by
 obtain ⟨A, c, e, hr⟩ := own_reads_row h (reps_flat encS_len s fun x _ => kSlot_mk w x) rfl
 obtain ⟨A', c', e', hc⟩ := own_cap h
 rw [e] at e'
 injection e' with _ _ e3
 exact ⟨A, c, e, e3 ▸ hc, hr⟩
theorem OwnS.bel {w w' : World} {base : Nat} {v : Value} {s : List Slot} (h : OwnS w base v s) (hb : Bel w w') : OwnS w' base v s := pw_own_below h hb
theorem OwnS.kept {w w' : World} {base : Nat} {v : Value} {s : List Slot} {r : Option Nat} (h : OwnS w base v s) (hg : w.grownBy w' r) (hne : v.ownBlock = none ∨ v.ownBlock ≠ r) : OwnS w' base v s := World.ownsRow.kept h hg hne
def OwnI (w : World) (base : Nat) (v : Value) (s : List Int) : Prop := w.ownsRow base 3 1 v s.length (s.flatMap encI)
theorem OwnI.reads {w : World} {base : Nat} {v : Value} {s : List Int} (h : OwnI w base v s) : ∃ A c, v = .slice A s.length c ∧ s.length ≤ c ∧ kInt.C w A s.length s := by
 obtain ⟨A, c, e, hr⟩ := own_reads_row h (reps_flat (R := kInt.K w) encI_len s fun x _ => rfl) rfl
 obtain ⟨A', c', e', hc⟩ := own_cap h
 rw [e] at e'
 injection e' with _ _ e3
 exact ⟨A, c, e, e3 ▸ hc, hr⟩
theorem reps_eq {α : Type} {R : α → List Value → Prop} {enc : α → List Value} {sz : Nat} (hl : ∀ x, (enc x).length = sz) {xs : List α} {cs : List Value} (h : Reps R sz xs cs) (hR : ∀ x c, R x c → c = enc x) : cs = xs.flatMap enc := by
 apply List.ext_getElem?
 intro k
 by_cases hs : sz = 0
 ·have h1 := h.1
  have h2 := flat_len hl xs
  rw [hs, Nat.mul_zero] at h1 h2
  rw [List.length_eq_zero_iff.1 h1, List.length_eq_zero_iff.1 h2]
 ·by_cases hk : k < xs.length * sz
  ·obtain ⟨x, hx⟩ := getQ (show k / sz < xs.length by rw [Nat.div_lt_iff_lt_mul (by omega)]; exact hk)
   have hj : k % sz < sz := Nat.mod_lt _ (by omega)
   have e : k = k / sz * sz + k % sz := by rw [Nat.mul_comm]; exact (Nat.div_add_mod k sz).symm
   have hr := hR _ _ (h.2 _ _ hx)
   have h3 := flat_get hl hx hj
   rw [← e] at h3
   rw [h3, ← hr, List.getElem?_take, if_pos hj, List.getElem?_drop, ← e]
  ·rw [List.getElem?_eq_none (by rw [h.1]; omega), List.getElem?_eq_none (by rw [flat_len hl]; omega)]
theorem ownS_of_R {w : World} {base : Nat} {ok : Nat → Prop} {v : Value} {s : List Slot} (h : kSlot.R 90 w base ok v s) : OwnS w base v s := by
 obtain ⟨_, inner, ho, hr⟩ := h
 have := reps_eq encS_len hr (fun x c hc => by obtain ⟨_, _, rfl, rfl, rfl⟩ := hc; rfl)
 rw [this] at ho
 exact ho
theorem ownI_of_R {w : World} {base : Nat} {ok : Nat → Prop} {v : Value} {s : List Int} (h : kInt.R 3 w base ok v s) : OwnI w base v s := by
 obtain ⟨_, inner, ho, hr⟩ := h
 have := reps_eq encI_len hr (fun x c hc => hc)
 rw [this] at ho
 exact ho
theorem R_ownS {w : World} {base : Nat} {v : Value} {s : List Slot} (h : OwnS w base v s) : kSlot.R 90 w base (fun _ => True) v s :=
 ⟨fun _ _ => trivial, _, h, reps_flat encS_len s fun x _ => ⟨[.string x.text], [.int .i64 x.uses], rfl, rfl, rfl⟩⟩
theorem R_ownI {w : World} {base : Nat} {v : Value} {s : List Int} (h : OwnI w base v s) : kInt.R 3 w base (fun _ => True) v s :=
 ⟨fun _ _ => trivial, _, h, reps_flat encI_len s fun x _ => rfl⟩
theorem own_empty (w : World) (base : Nat) (e : TypeId) (sz : Nat) (hb : base ≤ w.heap.size) : (w.alloc (.cells #[] e)).ownsRow base e sz (.slice (some ⟨w.heap.size, 0, none⟩) 0 0) 0 [] := by
 have := World.ownsRow_lit (base := base) (e := e) (size := sz) w #[] 0 hb (by simp) (by simp)
 exact this
theorem R_emptyS (w : World) (base : Nat) (hb : base ≤ w.heap.size) : kSlot.R 90 (w.alloc (.cells #[] 90)) base (fun _ => True) (.slice (some ⟨w.heap.size, 0, none⟩) 0 0) [] := R_ownS (own_empty w base _ _ hb)
theorem R_emptyI (w : World) (base : Nat) (hb : base ≤ w.heap.size) : kInt.R 3 (w.alloc (.cells #[] 3)) base (fun _ => True) (.slice (some ⟨w.heap.size, 0, none⟩) 0 0) [] := R_ownI (own_empty w base _ _ hb)
theorem info_int : (Tryz.prog.info? 3).map (fun i => (i.zero, i.size, i.bytes)) = some (some (.int .i64 0), 1, 8) := by kernel_rfl
theorem info_slot : (Tryz.prog.info? 90).map (fun i => (i.zero, i.size, i.bytes)) = some (some (.agg #[.string ⟨#[]⟩, .int .i64 0]), 2, 24) := by kernel_rfl
theorem info_vol : (Tryz.prog.info? 84).map (fun i => (i.zero, i.size, i.bytes)) = some (some (.agg #[.string ⟨#[]⟩, .slice none 0 0]), 2, 40) := by kernel_rfl
def psum : Nat → List UInt8 → Int
 | _, [] => 0
 | i, b :: l => ((i : Int) + 1) * ((b.toNat : Int) - 96) + psum (i + 1) l
theorem psum_snoc (l : List UInt8) (i : Nat) (b : UInt8) : psum i (l ++ [b]) = psum i l + ((i + l.length : Nat) + 1 : Int) * ((b.toNat : Int) - 96) := by
 induction l generalizing i with
 | nil => simp [psum]
 | cons c l ih => simp only [List.cons_append, psum, ih, List.length_cons]; rw [show i + 1 + l.length = i + (l.length + 1) by omega]; omega
def placeOf (s : ByteArray) : Int := psum 0 s.toList % 8 + 1
theorem psum_bd {l : List UInt8} (h : l.all ltr = true) (i : Nat) (hl : i + l.length ≤ 4) : 0 ≤ psum i l ∧ psum i l ≤ 16 * l.length := by
 induction l generalizing i with
 | nil => simp [psum]
 | cons c l ih =>
  simp only [List.all_cons, Bool.and_eq_true] at h
  have h1 := inR_iff.1 h.1
  simp only [List.length_cons] at hl
  have h2 := ih h.2 (i + 1) (by omega)
  simp only [psum, List.length_cons]
  have h3 : i = 0 ∨ i = 1 ∨ i = 2 ∨ i = 3 := by omega
  rcases h3 with rfl | rfl | rfl | rfl <;> omega
theorem tOk_parts {s : ByteArray} (h : tOk s = true) : s.toList.all ltr = true ∧ s.size ≤ 4 := by simpa [tOk] using h
theorem placeOf_bd {s : ByteArray} : 1 ≤ placeOf s ∧ placeOf s ≤ 8 := by unfold placeOf; omega
theorem ltr_at {s : ByteArray} (h : tOk s = true) {k : Nat} (hk : k < s.size) : 97 ≤ (s[k].toNat : Int) ∧ (s[k].toNat : Int) ≤ 100 := by
 have := List.all_eq_true.1 (tOk_parts h).1 _ (List.mem_of_getElem? (byte_at hk))
 exact inR_iff.1 this
theorem textPlace_c (s : ByteArray) (w : World) (ht : tOk s = true) : Calls Tryz.prog 162 #[.string s] w (Same (.int .i64 (placeOf s)) w) := by
 have HT := Lib.hid ht
 have hs := (tOk_parts ht).2
 have HC : ∀ w, Calls Tryz.prog 89 #[.string s] w (Same (.bool true) w) := fun w => ht ▸ implTextOk_c s w (by unfold maxLen; omega)
 have HC' := Lib.hid HC
 clear HC ht
 go_enter Tryz.func162, Tryz.ntmps162
 go_wp2_with (go_at_call 89; refine (HC'.out _).mono ?_; rintro e w' ⟨rfl, rfl⟩)
 go_loop [3, 10] (fun v3 v => ∃ k : Nat, k ≤ s.size ∧ v = .int .i64 k ∧ v3 = .int .i64 (psum 0 (s.toList.take k))) (fun _ v => s.size - (intOf v).toNat)
 case atStart => exact ⟨0, Nat.zero_le _, rfl, rfl⟩
 case round =>
  obtain ⟨k, hk, rfl, rfl⟩ := hrel
  have hbd := psum_bd (l := s.toList.take k) (by rw [List.all_eq_true]; intro x hx; exact List.all_eq_true.1 (tOk_parts HT.out).1 x (List.mem_of_mem_take hx)) 0 (by rw [List.length_take, size_toList]; omega)
  have hbl : (s.toList.take k).length ≤ 4 := by rw [List.length_take, size_toList]; omega
  by_cases hlt : k < s.size
  ·obtain ⟨hb0, hb1⟩ := ltr_at HT.out hlt
   have H := Lib.hid ((congrArg (psum 0) (take_snoc (byte_at hlt))).trans (psum_snoc _ _ _))
   have HL := Lib.hid (show (s.toList.take k).length = k by rw [List.length_take, size_toList]; omega)
   have hp0 : psum 0 [] = 0 := rfl
   have h4 : k = 0 ∨ k = 1 ∨ k = 2 ∨ k = 3 := by omega
   rcases h4 with rfl | rfl | rfl | rfl
   all_goals
    go_wp2
    go_round
    case rel => exact ⟨_, hlt, rfl, int_eq (by rw [H.out, HL.out]; first | omega | (simp only [List.take_zero, psum]; omega))⟩
    case measure => simp [intOf]; omega
  ·have H := Lib.hid (show s.toList.take k = s.toList from take_all (by rw [size_toList]; exact hlt))
   go_wp2
   go_ret
   exact ⟨ret_int (by rw [H.out]; rfl), rfl⟩
theorem l1Place_c (s : ByteArray) (w : World) (ht : tOk s = true) : Calls Tryz.prog 164 #[.string s] w (Same (.int .i64 (placeOf s)) w) := by
 have HT := Lib.hid ht
 have hs := (tOk_parts ht).2
 clear ht
 go_enter Tryz.func164, Tryz.ntmps164
 go_wp2
 go_loop [3, 4] (fun v3 v => ∃ k : Nat, k ≤ s.size ∧ v = .int .i64 k ∧ v3 = .int .i64 (psum 0 (s.toList.take k))) (fun _ v => s.size - (intOf v).toNat)
 case atStart => exact ⟨0, Nat.zero_le _, rfl, rfl⟩
 case round =>
  obtain ⟨k, hk, rfl, rfl⟩ := hrel
  have hbd := psum_bd (l := s.toList.take k) (by rw [List.all_eq_true]; intro x hx; exact List.all_eq_true.1 (tOk_parts HT.out).1 x (List.mem_of_mem_take hx)) 0 (by rw [List.length_take, size_toList]; omega)
  have hbl : (s.toList.take k).length ≤ 4 := by rw [List.length_take, size_toList]; omega
  by_cases hlt : k < s.size
  ·obtain ⟨hb0, hb1⟩ := ltr_at HT.out hlt
   have H := Lib.hid ((congrArg (psum 0) (take_snoc (byte_at hlt))).trans (psum_snoc _ _ _))
   have HL := Lib.hid (show (s.toList.take k).length = k by rw [List.length_take, size_toList]; omega)
   have hp0 : psum 0 [] = 0 := rfl
   have h4 : k = 0 ∨ k = 1 ∨ k = 2 ∨ k = 3 := by omega
   rcases h4 with rfl | rfl | rfl | rfl
   all_goals
    go_wp2
    go_round
    case rel => exact ⟨_, hlt, rfl, int_eq (by rw [H.out, HL.out]; first | omega | (simp only [List.take_zero, psum]; omega))⟩
    case measure => simp [intOf]; omega
  ·have H := Lib.hid (show s.toList.take k = s.toList from take_all (by rw [size_toList]; exact hlt))
   go_wp2
   go_ret
   exact ⟨ret_int (by rw [H.out]; rfl), rfl⟩
def lessS (x : Slot) : Slot := if x.uses - 1 = 0 then ⟨e0, 0⟩ else ⟨x.text, x.uses - 1⟩
def dropS (s : List Slot) (m : Nat) : List Slot := s.set m (lessS (s.getD m Slot.z))
theorem dropS_eq {s : List Slot} {m : Nat} {x : Slot} (h : s[m]? = some x) : dropS s m = s.set m (lessS x) := by unfold dropS; rw [getD_of h]
theorem OwnS.at {w : World} {base : Nat} {v : Value} {s : List Slot} (h : OwnS w base v s) {m : Nat} {x : Slot} (hx : s[m]? = some x) :
  ∃ g cap, v = .slice (some ⟨g, 0, none⟩) s.length cap ∧ base ≤ g ∧ g < w.heap.size ∧ s.length ≤ cap ∧ w.cell? ⟨g, m * 2, none⟩ = some (.string x.text) ∧ w.cell? ⟨g, m * 2 + 1, none⟩ = some (.int .i64 x.uses) ∧ w.frozen? ⟨g, m * 2, none⟩ = false ∧ w.frozen? ⟨g, m * 2 + 1, none⟩ = false := by
 have hm := ltQ hx
 obtain ⟨g, cap, rfl, hb, hg, hc⟩ := own_form h (by omega)
 refine ⟨g, cap, rfl, hb, hg, hc, ?_, ?_, World.ownsRow.frozenAt h _, World.ownsRow.frozenAt h _⟩
 ·rw [World.ownsRow.cellAt h _ (by omega), show m * 2 = m * 2 + 0 from rfl, flat_get encS_len hx (by omega)]; rfl
 ·rw [World.ownsRow.cellAt h _ (by omega), flat_get encS_len hx (by omega)]; rfl
theorem OwnS.setU {w : World} {base g cap : Nat} {s : List Slot} (h : OwnS w base (.slice (some ⟨g, 0, none⟩) s.length cap) s) {m : Nat} {x : Slot} (hx : s[m]? = some x) (u : Int) :
  OwnS (w.setCell ⟨g, m * 2 + 1, none⟩ (.int .i64 u)) base (.slice (some ⟨g, 0, none⟩) s.length cap) (s.set m ⟨x.text, u⟩) ∧ w.grownBy (w.setCell ⟨g, m * 2 + 1, none⟩ (.int .i64 u)) (some g) := by
 have := World.ownsRow.stored h (m * 2 + 1) (.int .i64 u)
 rw [flat_set encS_len (y := ⟨x.text, u⟩) hx (by omega) rfl] at this
 unfold OwnS
 rw [List.length_set]
 exact this
theorem OwnS.setT {w : World} {base g cap : Nat} {s : List Slot} (h : OwnS w base (.slice (some ⟨g, 0, none⟩) s.length cap) s) {m : Nat} {x : Slot} (hx : s[m]? = some x) (t : ByteArray) :
  OwnS (w.setCell ⟨g, m * 2, none⟩ (.string t)) base (.slice (some ⟨g, 0, none⟩) s.length cap) (s.set m ⟨t, x.uses⟩) ∧ w.grownBy (w.setCell ⟨g, m * 2, none⟩ (.string t)) (some g) := by
 have := World.ownsRow.stored h (m * 2) (.string t)
 rw [show m * 2 = m * 2 + 0 from rfl, flat_set encS_len (y := ⟨t, x.uses⟩) hx (by omega) rfl] at this
 unfold OwnS
 rw [List.length_set]
 exact this
theorem OwnS.setTU {w : World} {base g cap : Nat} {s : List Slot} (h : OwnS w base (.slice (some ⟨g, 0, none⟩) s.length cap) s) {m : Nat} {x : Slot} (hx : s[m]? = some x) (t : ByteArray) (u : Int) :
  OwnS ((w.setCell ⟨g, m * 2, none⟩ (.string t)).setCell ⟨g, m * 2 + 1, none⟩ (.int .i64 u)) base (.slice (some ⟨g, 0, none⟩) s.length cap) (s.set m ⟨t, u⟩) ∧ w.grownBy ((w.setCell ⟨g, m * 2, none⟩ (.string t)).setCell ⟨g, m * 2 + 1, none⟩ (.int .i64 u)) (some g) := by
 obtain ⟨h1, g1⟩ := h.setT hx t
 have hx1 : (s.set m ⟨t, x.uses⟩)[m]? = some ⟨t, x.uses⟩ := by rw [List.getElem?_set_self (ltQ hx)]
 have h1' : OwnS (w.setCell ⟨g, m * 2, none⟩ (.string t)) base (.slice (some ⟨g, 0, none⟩) (s.set m ⟨t, x.uses⟩).length cap) (s.set m ⟨t, x.uses⟩) := by rw [List.length_set]; exact h1
 obtain ⟨h2, g2⟩ := h1'.setU hx1 u
 rw [List.length_set, List.set_set] at h2
 exact ⟨h2, grown_tr g1 g2⟩
theorem OwnS.setUT {w : World} {base g cap : Nat} {s : List Slot} (h : OwnS w base (.slice (some ⟨g, 0, none⟩) s.length cap) s) {m : Nat} {x : Slot} (hx : s[m]? = some x) (t : ByteArray) (u : Int) :
  OwnS ((w.setCell ⟨g, m * 2 + 1, none⟩ (.int .i64 u)).setCell ⟨g, m * 2, none⟩ (.string t)) base (.slice (some ⟨g, 0, none⟩) s.length cap) (s.set m ⟨t, u⟩) ∧ w.grownBy ((w.setCell ⟨g, m * 2 + 1, none⟩ (.int .i64 u)).setCell ⟨g, m * 2, none⟩ (.string t)) (some g) := by
 obtain ⟨h1, g1⟩ := h.setU hx u
 have hx1 : (s.set m ⟨x.text, u⟩)[m]? = some ⟨x.text, u⟩ := by rw [List.getElem?_set_self (ltQ hx)]
 have h1' : OwnS (w.setCell ⟨g, m * 2 + 1, none⟩ (.int .i64 u)) base (.slice (some ⟨g, 0, none⟩) (s.set m ⟨x.text, u⟩).length cap) (s.set m ⟨x.text, u⟩) := by rw [List.length_set]; exact h1
 obtain ⟨h2, g2⟩ := h1'.setT hx1 t
 rw [List.length_set, List.set_set] at h2
 exact ⟨h2, grown_tr g1 g2⟩
def Wrote (r : Value) (w : World) (base : Nat) (v : Value) (s : List Slot) (e : Ending) (w' : World) : Prop := e = .returned r ∧ OwnS w' base v s ∧ w.grownBy w' v.ownBlock
theorem drop_c {w : World} {base : Nat} {v : Value} {s : List Slot} (h : OwnS w base v s) {m : Nat} {x : Slot} (hx : s[m]? = some x) (hm : s.length ≤ 1048576) (h1 : 1 ≤ x.uses) (h2 : x.uses ≤ 99) :
  Calls Tryz.prog 147 #[v, .int .i64 ((m : Int) + 1)] w (Wrote (.tuple #[]) w base v (dropS s m)) := by
 obtain ⟨g, cap, rfl, hb, hg, hcap, hc, hc', hf, hf'⟩ := OwnS.at h hx
 have hl := ltQ hx
 have H := Lib.hid h
 have HX := Lib.hid hx
 have HD := Lib.hid (dropS_eq hx)
 clear h hx
 by_cases h0 : x.uses - 1 = 0
 ·have HL := Lib.hid (show lessS x = ⟨e0, 0⟩ by unfold lessS; rw [if_pos h0])
  have hu : x.uses = 1 := by omega
  have HU := Lib.hid hu
  rw [hu] at hc'
  clear h0 hu
  go_enter Tryz.func147, Tryz.ntmps147
  go_wp2
  go_end0
  have hs := OwnS.setUT H.out HX.out e0 0
  exact ⟨rfl, by rw [HD.out, HL.out]; exact hs.1, hs.2⟩
 ·have HL := Lib.hid (show lessS x = ⟨x.text, x.uses - 1⟩ by unfold lessS; rw [if_neg h0])
  go_enter Tryz.func147, Tryz.ntmps147
  go_wp2
  go_end0
  have hs := OwnS.setU H.out HX.out (x.uses - 1)
  exact ⟨rfl, by rw [HD.out, HL.out]; exact hs.1, hs.2⟩
theorem l2Drop_c {w : World} {base : Nat} {v : Value} {s : List Slot} (h : OwnS w base v s) {m : Nat} {x : Slot} (hx : s[m]? = some x) (hm : s.length ≤ 1048576) (h1 : 1 ≤ x.uses) (h2 : x.uses ≤ 99) :
  Calls Tryz.prog 136 #[v, .int .i64 ((m : Int) + 1)] w (Wrote v w base v (dropS s m)) := by
 obtain ⟨g, cap, rfl, hb, hg, hcap, hc, hc', hf, hf'⟩ := OwnS.at h hx
 have hl := ltQ hx
 have H := Lib.hid h
 have HX := Lib.hid hx
 have HD := Lib.hid (dropS_eq hx)
 clear h hx
 by_cases h0 : x.uses - 1 = 0
 ·have HL := Lib.hid (show lessS x = ⟨e0, 0⟩ by unfold lessS; rw [if_pos h0])
  have hu : x.uses = 1 := by omega
  have HU := Lib.hid hu
  rw [hu] at hc'
  clear h0 hu
  go_enter Tryz.func136, Tryz.ntmps136
  go_wp2
  go_ret
  have hs := OwnS.setUT H.out HX.out e0 0
  exact ⟨rfl, by rw [HD.out, HL.out]; exact hs.1, hs.2⟩
 ·have HL := Lib.hid (show lessS x = ⟨x.text, x.uses - 1⟩ by unfold lessS; rw [if_neg h0])
  go_enter Tryz.func136, Tryz.ntmps136
  go_wp2
  go_ret
  have hs := OwnS.setU H.out HX.out (x.uses - 1)
  exact ⟨rfl, by rw [HD.out, HL.out]; exact hs.1, hs.2⟩
def probe (s : List Slot) : Nat → Int → Int
 | 0, _ => 0
 | n + 1, p => if (s.getD (p - 1).toNat Slot.z).uses = 0 then p else probe s n (p % 8 + 1)
def putAt (s : List Slot) (t : ByteArray) : Int :=
 if idx (fun o : Slot => o.text.toList == t.toList) s = -1 then probe s 8 (placeOf t)
 else if (s.getD (idx (fun o : Slot => o.text.toList == t.toList) s).toNat Slot.z).uses = 99 then 0 else idx (fun o : Slot => o.text.toList == t.toList) s + 1
def moreS (s : List Slot) (t : ByteArray) (p : Int) : List Slot := if p = 0 then s else s.set (p - 1).toNat ⟨t, (s.getD (p - 1).toNat Slot.z).uses + 1⟩
def putS (s : List Slot) (t : ByteArray) : List Slot := moreS s t (putAt s t)
theorem put_c {w : World} {base : Nat} {v : Value} {s : List Slot} (h : OwnS w base v s) (hm : s.length = 8) (hu : ∀ x ∈ s, 0 ≤ x.uses ∧ x.uses ≤ 99) (t : ByteArray) (ht : tOk t = true) :
  Calls Tryz.prog 148 #[v, .string t] w (Wrote (.int .i64 (putAt s t)) w base v (putS s t)) := by
 obtain ⟨A, c, rfl, hc, hC⟩ := h.reads
 have H := Lib.hid h
 have HC := Lib.hid hC
 have HU := Lib.hid hu
 have HT := Lib.hid ht
 have HM := Lib.hid hm
 have hl : s.length ≤ 1048576 := by omega
 clear h hC hu ht
 have hi := idx_bd (fun o : Slot => o.text.toList == t.toList) s
 by_cases hn : idx (fun o : Slot => o.text.toList == t.toList) s = -1
 ·have HF : ∀ W, kSlot.C W A s.length s → Calls Tryz.prog 161 #[.slice A s.length c, .string t] W (Ret (.int .i64 0) W) := fun W hW => by
   have := find_c s A c t W hW hl
   rw [hn] at this
   exact this
  have HF' := Lib.hid HF
  have HP := Lib.hid (show putAt s t = probe s 8 (placeOf t) by unfold putAt; rw [if_pos hn])
  clear HF hn hi hm
  go_enter Tryz.func148, Tryz.ntmps148
  go_wp2_with (first | (go_at_call 161; refine (HF'.out _ HC.out).mono ?_; rintro e w1 ⟨rfl, hb1⟩) | (go_at_call 162; refine (textPlace_c t _ HT.out).mono ?_; rintro e w' ⟨rfl, rfl⟩))
  have HW1 := Lib.hid (H.out.bel hb1)
  go_loop [5, 13] (fun v5 v13 => ∃ (j m : Nat), j ≤ 8 ∧ m < 8 ∧ v13 = .int .i64 j ∧ v5 = .int .i64 ((m : Int) + 1) ∧ Hid (putAt s t = probe s (8 - j) ((m : Int) + 1))) (fun _ v => 8 - (intOf v).toNat)
  case atStart =>
   have := @placeOf_bd t
   exact ⟨0, (placeOf t - 1).toNat, by omega, by omega, rfl, int_eq (by omega), by rw [show (((placeOf t - 1).toNat : Nat) : Int) + 1 = placeOf t by omega]; exact HP⟩
  case round =>
   obtain ⟨j, m, hj, hm8, rfl, rfl, hP⟩ := hrel
   by_cases hlt : j < 8
   ·obtain ⟨x, hx⟩ := getQ (show m < s.length by rw [HM.out]; exact hm8)
    obtain ⟨g, cap, ev, hb, hg, hcap, hcc, hcc', hf, hf'⟩ := OwnS.at HW1.out hx
    obtain ⟨rfl, -, rfl⟩ := by simpa using ev
    have hux := HU.out x (List.mem_of_getElem? hx)
    have hmi : ((m : Int) + 1 - 1).toNat = m := by omega
    have HX := Lib.hid hx
    have hml : m < s.length := by rw [HM.out]; exact hm8
    by_cases h0 : x.uses = 0
    ·have HQ := Lib.hid (show putAt s t = (m : Int) + 1 by rw [hP.out, show 8 - j = (7 - j) + 1 by omega]; unfold probe; rw [hmi, getD_of hx, if_pos h0])
     have HS := Lib.hid (show putS s t = s.set m ⟨t, 1⟩ by unfold putS moreS; rw [HQ.out, if_neg (by omega), hmi, getD_of hx, h0]; rfl)
     rw [h0] at hcc'
     clear hx hmi h0
     go_wp2
     go_ret
     have hs := OwnS.setTU HW1.out HX.out t 1
     exact ⟨ret_int HQ.out.symm, by rw [HS.out]; exact hs.1, grown_tr (grown_of_bel hb1 _) hs.2⟩
    ·have HQ := Lib.hid (show putAt s t = probe s (8 - (j + 1)) ((((m + 1) % 8 : Nat) : Int) + 1) by
      rw [hP.out, show 8 - j = (7 - j) + 1 by omega]
      conv => lhs; unfold probe
      rw [hmi, getD_of hx, if_neg h0, show 7 - j = 8 - (j + 1) by omega]
      congr 1 <;> omega)
     clear hx hmi
     go_wp2_with (go_at_call 163; refine (textNext_c _ _ (by omega) (by omega)).mono ?_; rintro e w' ⟨rfl, rfl⟩)
     go_round
     case rel => exact ⟨j + 1, (m + 1) % 8, by omega, by omega, by go_num, int_eq (by omega), HQ⟩
     case measure => simp [intOf]; omega
   ·have HQ := Lib.hid (show putAt s t = 0 by rw [hP.out, show 8 - j = 0 by omega]; rfl)
    have HS := Lib.hid (show putS s t = s by unfold putS moreS; rw [HQ.out, if_pos rfl])
    go_wp2
    go_ret
    exact ⟨ret_int HQ.out.symm, by rw [HS.out]; exact HW1.out, grown_of_bel hb1 _⟩
 ·obtain ⟨m, hm'⟩ : ∃ m : Nat, idx (fun o : Slot => o.text.toList == t.toList) s = m := ⟨(idx (fun o : Slot => o.text.toList == t.toList) s).toNat, by omega⟩
  obtain ⟨x, hx, hxt⟩ := idx_get (f := fun o : Slot => o.text.toList == t.toList) (xs := s) (by omega)
  rw [hm', Int.toNat_natCast] at hx
  have hxt' : x.text = t := str_eq (by simpa using hxt)
  have hml := ltQ hx
  have HF : ∀ W, kSlot.C W A s.length s → Calls Tryz.prog 161 #[.slice A s.length c, .string t] W (Ret (.int .i64 ((m : Int) + 1)) W) := fun W hW => by
   have := find_c s A c t W hW hl
   rw [hm'] at this
   exact this
  have HF' := Lib.hid HF
  have hux := HU.out x (List.mem_of_getElem? hx)
  have HX := Lib.hid hx
  by_cases h99 : x.uses = 99
  ·have HQ := Lib.hid (show putAt s t = 0 by unfold putAt; rw [if_neg hn, hm', Int.toNat_natCast, getD_of hx, if_pos h99])
   have HS := Lib.hid (show putS s t = s by unfold putS moreS; rw [HQ.out, if_pos rfl])
   have H99 := Lib.hid h99
   clear HF hn hi hm hx hxt hxt' h99 hm'
   go_enter Tryz.func148, Tryz.ntmps148
   go_wp2_with fail
   refine (HF'.out _ HC.out).mono ?_
   rintro e w1 ⟨rfl, hb1⟩
   obtain ⟨g, cap, ev, hb, hg, hcap, hcc, hcc', hf, hf'⟩ := OwnS.at (H.out.bel hb1) HX.out
   obtain ⟨rfl, -, rfl⟩ := by simpa using ev
   rw [H99.out] at hcc'
   have HW1 := Lib.hid (H.out.bel hb1)
   go_wp2
   go_ret
   exact ⟨ret_int HQ.out.symm, by rw [HS.out]; exact HW1.out, grown_of_bel hb1 _⟩
  ·have HQ := Lib.hid (show putAt s t = (m : Int) + 1 by unfold putAt; rw [if_neg hn, hm', Int.toNat_natCast, getD_of hx, if_neg h99])
   have HS := Lib.hid (show putS s t = s.set m ⟨x.text, x.uses + 1⟩ by unfold putS moreS; rw [HQ.out, if_neg (by omega), show ((m : Int) + 1 - 1).toNat = m by omega, getD_of hx, hxt'])
   clear HF hn hi hm hx hxt hxt' hm'
   go_enter Tryz.func148, Tryz.ntmps148
   go_wp2_with fail
   refine (HF'.out _ HC.out).mono ?_
   rintro e w1 ⟨rfl, hb1⟩
   obtain ⟨g, cap, ev, hb, hg, hcap, hcc, hcc', hf, hf'⟩ := OwnS.at (H.out.bel hb1) HX.out
   obtain ⟨rfl, -, rfl⟩ := by simpa using ev
   have HW1 := Lib.hid (H.out.bel hb1)
   go_wp2
   go_ret
   have hs := OwnS.setU HW1.out HX.out (x.uses + 1)
   exact ⟨ret_int HQ.out.symm, by rw [HS.out]; exact hs.1, grown_tr (grown_of_bel hb1 _) hs.2⟩
def scan (s : List Slot) (t : ByteArray) : Nat → Int → Int → Int × Bool
 | 0, _, free => (free, false)
 | n + 1, p, free => if (s.getD (p - 1).toNat Slot.z).text.toList == t.toList then (p, true)
   else scan s t n (p % 8 + 1) (if (s.getD (p - 1).toNat Slot.z).uses = 0 ∧ free = 0 then p else free)
theorem scan_bd (s : List Slot) (t : ByteArray) (n : Nat) (p free : Int) (h1 : 1 ≤ p) (h8 : p ≤ 8) (f0 : 0 ≤ free) (f8 : free ≤ 8) : 0 ≤ (scan s t n p free).1 ∧ (scan s t n p free).1 ≤ 8 := by
 induction n generalizing p free with
 | zero => exact ⟨f0, f8⟩
 | succ n ih =>
  unfold scan
  split
  ·exact ⟨by omega, h8⟩
  ·exact ih _ _ (by omega) (by omega) (by split <;> omega) (by split <;> omega)
def scanS (s : List Slot) (t : ByteArray) : Int × Bool := scan s t 8 (placeOf t) 0
theorem l2Find_c {w : World} {A : Option Addr} {c : Nat} {s : List Slot} (hC : kSlot.C w A s.length s) (hm : s.length = 8) (t : ByteArray) (ht : tOk t = true) :
  Calls Tryz.prog 154 #[.slice A s.length c, .string t] w (Same (.tuple #[.int .i64 (scanS s t).1, .bool (scanS s t).2]) w) := by
 have HC := Lib.hid hC
 have HT := Lib.hid ht
 have HM := Lib.hid hm
 clear hC ht hm
 have HP : Hid (scanS s t = scan s t 8 (placeOf t) 0) := rfl
 go_enter Tryz.func154, Tryz.ntmps154
 go_wp2_with (go_at_call 164; refine (l1Place_c t _ HT.out).mono ?_; rintro e w' ⟨rfl, rfl⟩)
 go_loop [6, 7, 8] (fun v6 v7 v8 => ∃ (j m f : Nat), j ≤ 8 ∧ m < 8 ∧ f ≤ 8 ∧ v8 = .int .i64 j ∧ v6 = .int .i64 ((m : Int) + 1) ∧ v7 = .int .i64 f ∧ Hid (scanS s t = scan s t (8 - j) ((m : Int) + 1) f)) (fun _ _ v => 8 - (intOf v).toNat)
 case atStart =>
  have := @placeOf_bd t
  exact ⟨0, (placeOf t - 1).toNat, 0, by omega, by omega, by omega, rfl, int_eq (by omega), rfl, by rw [show (((placeOf t - 1).toNat : Nat) : Int) + 1 = placeOf t by omega]; exact HP⟩
 case round =>
  obtain ⟨j, m, f, hj, hm8, hf8, rfl, rfl, rfl, hP⟩ := hrel
  by_cases hlt : j < 8
  ·obtain ⟨x, hx⟩ := getQ (show m < s.length by rw [HM.out]; exact hm8)
   obtain ⟨ad, rfl, hc, hc'⟩ := at_slot HC.out hx
   have hmi : ((m : Int) + 1 - 1).toNat = m := by omega
   have hml : m < s.length := by rw [HM.out]; exact hm8
   cases he : x.text.toList == t.toList
   ·have HQ : ∀ f2 : Nat, (if x.uses = 0 ∧ (f : Int) = 0 then (m : Int) + 1 else f) = (f2 : Int) → scanS s t = scan s t (8 - (j + 1)) ((((m + 1) % 8 : Nat) : Int) + 1) f2 := fun f2 hf2 => by
     rw [hP.out, show 8 - j = (7 - j) + 1 by omega]
     conv => lhs; unfold scan
     rw [hmi, getD_of hx, if_neg (by rw [he]; decide), show 7 - j = 8 - (j + 1) by omega, hf2]
     congr 1 <;> omega
    have HQ' := Lib.hid HQ
    clear HQ hmi hx
    by_cases h0 : x.uses = 0
    ·have H0 := Lib.hid h0
     rw [h0] at hc'
     by_cases hf0 : f = 0
     ·subst hf0
      clear h0
      go_wp2_with (go_at_call 165; refine (l1Next_c _ _ (by omega) (by omega)).mono ?_; rintro e w' ⟨rfl, rfl⟩)
      go_round
      case rel => exact ⟨j + 1, (m + 1) % 8, m + 1, by omega, by omega, by omega, by go_num, int_eq (by omega), int_eq (by omega), HQ'.out _ (by rw [if_pos ⟨H0.out, rfl⟩]; omega)⟩
      case measure => simp [intOf]; omega
     ·have hf1 : (f : Int) ≠ 0 := by omega
      have hfb : ((f : Int) == 0) = false := by simpa using hf1
      clear h0
      go_wp2_with (go_at_call 165; refine (l1Next_c _ _ (by omega) (by omega)).mono ?_; rintro e w' ⟨rfl, rfl⟩)
      go_round
      case rel => exact ⟨j + 1, (m + 1) % 8, f, by omega, by omega, by omega, by go_num, int_eq (by omega), rfl, HQ'.out _ (by rw [if_neg (fun h => hf1 h.2)])⟩
      case measure => simp [intOf]; omega
    ·have hub : (x.uses == 0) = false := by simpa using h0
     have H0 := Lib.hid h0
     clear h0
     go_wp2_with (go_at_call 165; refine (l1Next_c _ _ (by omega) (by omega)).mono ?_; rintro e w' ⟨rfl, rfl⟩)
     go_round
     case rel => exact ⟨j + 1, (m + 1) % 8, f, by omega, by omega, by omega, by go_num, int_eq (by omega), rfl, HQ'.out _ (by rw [if_neg (fun h => H0.out h.1)])⟩
     case measure => simp [intOf]; omega
   ·have HQ := Lib.hid (show scanS s t = ((m : Int) + 1, true) by
     rw [hP.out, show 8 - j = (7 - j) + 1 by omega]
     unfold scan
     rw [hmi, getD_of hx, if_pos he])
    clear hmi hx
    go_wp2
    go_ret2
    exact ⟨by rw [HQ.out]; rfl, rfl⟩
  ·have HQ := Lib.hid (show scanS s t = ((f : Int), false) by rw [hP.out, show 8 - j = 0 by omega]; rfl)
   go_wp2
   go_ret2
   exact ⟨by rw [HQ.out]; rfl, rfl⟩
def putAt2 (s : List Slot) (t : ByteArray) : Int := if (scanS s t).1 = 0 ∨ 99 ≤ (s.getD ((scanS s t).1 - 1).toNat Slot.z).uses then 0 else (scanS s t).1
theorem l2Put_c {w : World} {base : Nat} {v : Value} {s : List Slot} (h : OwnS w base v s) (hm : s.length = 8) (hu : ∀ x ∈ s, 0 ≤ x.uses ∧ x.uses ≤ 99) (t : ByteArray) (ht : tOk t = true) :
  Calls Tryz.prog 137 #[v, .string t] w (Wrote (.tuple #[v, .int .i64 (putAt2 s t), .bool (putAt2 s t != 0)]) w base v (moreS s t (putAt2 s t))) := by
 obtain ⟨A, c, rfl, hc, hC⟩ := h.reads
 have H := Lib.hid h
 have HM := Lib.hid hm
 have hb := scan_bd s t 8 (placeOf t) 0 (placeOf_bd).1 (placeOf_bd).2 (by omega) (by omega)
 have HF := Lib.hid (l2Find_c (c := c) hC hm t ht)
 have HU := Lib.hid hu
 clear h hC hm ht hu
 obtain ⟨p, fl, hp⟩ : ∃ p fl, scanS s t = (p, fl) := ⟨_, _, rfl⟩
 have HF2 : Calls Tryz.prog 154 #[.slice A s.length c, .string t] w (Same (.tuple #[.int .i64 p, .bool fl]) w) := by have := HF.out; rw [hp] at this; exact this
 have hb2 : 0 ≤ p ∧ p ≤ 8 := by have h := hb; rw [show scan s t 8 (placeOf t) 0 = (p, fl) from hp] at h; exact h
 have HP := Lib.hid hp
 have HF3 := Lib.hid HF2
 clear hp HF2 hb HF
 by_cases h0 : p = 0
 ·subst h0
  have HQ := Lib.hid (show putAt2 s t = 0 by unfold putAt2; rw [HP.out, if_pos (.inl rfl)])
  go_enter Tryz.func137, Tryz.ntmps137
  go_wp2_with (go_at_call 154; refine HF3.out.mono ?_; rintro e w' ⟨rfl, rfl⟩)
  go_ret3
  exact ⟨by rw [HQ.out]; rfl, by rw [HQ.out]; unfold moreS; rw [if_pos rfl]; exact H.out, grown_refl _ _⟩
 ·obtain ⟨m, rfl⟩ : ∃ m : Nat, p = (m : Int) + 1 := ⟨(p - 1).toNat, by omega⟩
  have hmi : ((m : Int) + 1 - 1).toNat = m := by omega
  have hml : m < s.length := by rw [HM.out]; omega
  obtain ⟨x, hx⟩ := getQ hml
  obtain ⟨g, cap, ev, hb, hg, hcap, hcc, hcc', hf, hf'⟩ := OwnS.at H.out hx
  obtain ⟨rfl, -, rfl⟩ := by simpa using ev
  have hux := HU.out x (List.mem_of_getElem? hx)
  by_cases h99 : 99 ≤ x.uses
  ·have HQ := Lib.hid (show putAt2 s t = 0 by unfold putAt2; rw [HP.out]; simp only; rw [hmi, getD_of hx, if_pos (.inr h99)])
   have hd : decide (99 ≤ x.uses) = true := by simpa using h99
   clear hx hmi h0
   go_enter Tryz.func137, Tryz.ntmps137
   go_wp2_with (go_at_call 154; refine HF3.out.mono ?_; rintro e w' ⟨rfl, rfl⟩)
   go_ret3
   exact ⟨by rw [HQ.out]; rfl, by rw [HQ.out]; unfold moreS; rw [if_pos rfl]; exact H.out, grown_refl _ _⟩
  ·have HQ := Lib.hid (show putAt2 s t = (m : Int) + 1 by unfold putAt2; rw [HP.out]; simp only; rw [hmi, getD_of hx, if_neg (by omega)])
   have HS := Lib.hid (show moreS s t (putAt2 s t) = s.set m ⟨t, x.uses + 1⟩ by rw [HQ.out]; unfold moreS; rw [if_neg h0, hmi, getD_of hx])
   have HX := Lib.hid hx
   have hb0 : ((m : Int) + 1 == 0) = false := by simpa using h0
   clear hx hmi h0
   go_enter Tryz.func137, Tryz.ntmps137
   go_wp2_with (go_at_call 154; refine HF3.out.mono ?_; rintro e w' ⟨rfl, rfl⟩)
   go_ret3
   have hs := OwnS.setTU H.out HX.out t (x.uses + 1)
   exact ⟨by rw [HQ.out]; first | rfl | simp [hb0], by rw [HS.out]; exact hs.1, hs.2⟩
structure VRow (w : World) (base : Nat) (v : Value) (vs : List Vol) (bvs : List Value) : Prop where
  len : bvs.length = vs.length
  row : w.ownsRow base 84 2 v vs.length ((vs.zip bvs).flatMap encV)
theorem zip_get {α β} {xs : List α} {ys : List β} {m : Nat} {x : α} {y : β} (hx : xs[m]? = some x) (hy : ys[m]? = some y) : (xs.zip ys)[m]? = some (x, y) := by
 rw [List.getElem?_zip_eq_some]; exact ⟨hx, hy⟩
theorem zip_setR {α β} {xs : List α} {ys : List β} {m : Nat} {x : α} (hx : xs[m]? = some x) (y : β) : (xs.zip ys).set m (x, y) = xs.zip (ys.set m y) := by
 induction xs generalizing ys m with
 | nil => simp at hx
 | cons a xs ih =>
  cases ys with
  | nil => simp
  | cons b ys =>
   cases m with
   | zero => simp at hx; subst hx; rfl
   | succ m => simp at hx; simp [ih hx]
theorem zip_setL {α β} {xs : List α} {ys : List β} {m : Nat} {y : β} (hy : ys[m]? = some y) (x : α) : (xs.zip ys).set m (x, y) = (xs.set m x).zip ys := by
 induction xs generalizing ys m with
 | nil => simp
 | cons a xs ih =>
  cases ys with
  | nil => simp at hy
  | cons b ys =>
   cases m with
   | zero => simp at hy; subst hy; rfl
   | succ m => simp at hy; simp [ih hy]
theorem VRow.at {w : World} {base : Nat} {v : Value} {vs : List Vol} {bvs : List Value} (h : VRow w base v vs bvs) {m : Nat} {x : Vol} (hx : vs[m]? = some x) :
  ∃ g cap b, bvs[m]? = some b ∧ v = .slice (some ⟨g, 0, none⟩) vs.length cap ∧ base ≤ g ∧ g < w.heap.size ∧ vs.length ≤ cap ∧ w.cell? ⟨g, m * 2, none⟩ = some (.string x.name) ∧ w.cell? ⟨g, m * 2 + 1, none⟩ = some b ∧ w.frozen? ⟨g, m * 2, none⟩ = false ∧ w.frozen? ⟨g, m * 2 + 1, none⟩ = false := by
 have hm := ltQ hx
 obtain ⟨b, hb⟩ := getQ (show m < bvs.length by rw [h.len]; exact hm)
 obtain ⟨g, cap, rfl, hbg, hg, hc⟩ := own_form h.row (by omega)
 refine ⟨g, cap, b, hb, rfl, hbg, hg, hc, ?_, ?_, World.ownsRow.frozenAt h.row _, World.ownsRow.frozenAt h.row _⟩
 ·rw [World.ownsRow.cellAt h.row _ (by omega), show m * 2 = m * 2 + 0 from rfl, flat_get encV_len (zip_get hx hb) (by omega)]; rfl
 ·rw [World.ownsRow.cellAt h.row _ (by omega), flat_get encV_len (zip_get hx hb) (by omega)]; rfl
theorem VRow.setB {w : World} {base g cap : Nat} {vs : List Vol} {bvs : List Value} (h : VRow w base (.slice (some ⟨g, 0, none⟩) vs.length cap) vs bvs) {m : Nat} {x : Vol} (hx : vs[m]? = some x) (b : Value) :
  VRow (w.setCell ⟨g, m * 2 + 1, none⟩ b) base (.slice (some ⟨g, 0, none⟩) vs.length cap) vs (bvs.set m b) ∧ w.grownBy (w.setCell ⟨g, m * 2 + 1, none⟩ b) (some g) := by
 obtain ⟨b0, hb0⟩ := getQ (show m < bvs.length by rw [h.len]; exact ltQ hx)
 have := World.ownsRow.stored h.row (m * 2 + 1) b
 rw [flat_set encV_len (y := (x, b)) (zip_get hx hb0) (by omega) rfl, zip_setR hx] at this
 exact ⟨⟨by rw [List.length_set]; exact h.len, this.1⟩, this.2⟩
theorem VRow.setN {w : World} {base g cap : Nat} {vs : List Vol} {bvs : List Value} (h : VRow w base (.slice (some ⟨g, 0, none⟩) vs.length cap) vs bvs) {m : Nat} {x : Vol} (hx : vs[m]? = some x) (t : ByteArray) :
  VRow (w.setCell ⟨g, m * 2, none⟩ (.string t)) base (.slice (some ⟨g, 0, none⟩) vs.length cap) (vs.set m ⟨t, x.blocks⟩) bvs ∧ w.grownBy (w.setCell ⟨g, m * 2, none⟩ (.string t)) (some g) := by
 obtain ⟨b0, hb0⟩ := getQ (show m < bvs.length by rw [h.len]; exact ltQ hx)
 have := World.ownsRow.stored h.row (m * 2) (.string t)
 rw [show m * 2 = m * 2 + 0 from rfl, flat_set encV_len (y := ((⟨t, x.blocks⟩ : Vol), b0)) (zip_get hx hb0) (by omega) rfl, zip_setL hb0] at this
 exact ⟨⟨by rw [List.length_set]; exact h.len, by rw [List.length_set]; exact this.1⟩, this.2⟩
theorem VRow.bel {w w' : World} {base : Nat} {v : Value} {vs : List Vol} {bvs : List Value} (h : VRow w base v vs bvs) (hb : Bel w w') : VRow w' base v vs bvs := ⟨h.len, pw_own_below h.row hb⟩
theorem VRow.kept {w w' : World} {base : Nat} {v : Value} {vs : List Vol} {bvs : List Value} {r : Option Nat} (h : VRow w base v vs bvs) (hg : w.grownBy w' r) (hne : v.ownBlock = none ∨ v.ownBlock ≠ r) : VRow w' base v vs bvs := ⟨h.len, World.ownsRow.kept h.row hg hne⟩
structure OwnV (w : World) (base : Nat) (v : Value) (vs : List Vol) (bvs : List Value) : Prop where
  row : VRow w base v vs bvs
  inner : ∀ (m : Nat) (x : Vol) (b : Value), vs[m]? = some x → bvs[m]? = some b → OwnI w base b x.blocks
  apart : ∀ (i j : Nat) (b b' : Value) (k : Nat), i ≠ j → bvs[i]? = some b → bvs[j]? = some b' → b.ownBlock = some k → b'.ownBlock ≠ some k
theorem reads_vrow {w : World} {base : Nat} {v : Value} {vs : List Vol} {bvs : List Value} (h : VRow w base v vs bvs)
  (hi : ∀ (m : Nat) (x : Vol) (b : Value), vs[m]? = some x → bvs[m]? = some b → ∃ A c, b = .slice A x.blocks.length c ∧ x.blocks.length ≤ c ∧ kInt.C w A x.blocks.length x.blocks) :
  ∃ A c, v = .slice A vs.length c ∧ vs.length ≤ c ∧ kVol.C w A vs.length vs := by
 have hR : Reps (kVol.K w) 2 vs ((vs.zip bvs).flatMap encV) := ⟨by rw [flat_len encV_len, List.length_zip, h.len, Nat.min_self], fun j p hp => by
  obtain ⟨b, hb⟩ := getQ (show j < bvs.length by rw [h.len]; exact ltQ hp)
  rw [flat_seg encV_len (zip_get hp hb)]
  obtain ⟨A, c, rfl, hc, hC⟩ := hi j p b hp hb
  exact ⟨[.string p.name], [.slice A p.blocks.length c], rfl, rfl, A, c, rfl, hc, hC⟩⟩
 obtain ⟨A, c, e, hr⟩ := own_reads_row h.row hR rfl
 obtain ⟨A', c', e', hc⟩ := own_cap h.row
 rw [e] at e'
 injection e' with _ _ e3
 exact ⟨A, c, e, e3 ▸ hc, hr⟩
theorem OwnV.reads {w : World} {base : Nat} {v : Value} {vs : List Vol} {bvs : List Value} (h : OwnV w base v vs bvs) : ∃ A c, v = .slice A vs.length c ∧ vs.length ≤ c ∧ kVol.C w A vs.length vs :=
 reads_vrow h.row fun m x b hx hb => (h.inner m x b hx hb).reads
theorem OwnI.bel {w w' : World} {base : Nat} {v : Value} {s : List Int} (h : OwnI w base v s) (hb : Bel w w') : OwnI w' base v s := pw_own_below h hb
theorem OwnI.kept {w w' : World} {base : Nat} {v : Value} {s : List Int} {r : Option Nat} (h : OwnI w base v s) (hg : w.grownBy w' r) (hne : v.ownBlock = none ∨ v.ownBlock ≠ r) : OwnI w' base v s := World.ownsRow.kept h hg hne
theorem OwnV.bel {w w' : World} {base : Nat} {v : Value} {vs : List Vol} {bvs : List Value} (h : OwnV w base v vs bvs) (hb : Bel w w') : OwnV w' base v vs bvs :=
 ⟨h.row.bel hb, fun m x b hx hbb => (h.inner m x b hx hbb).bel hb, h.apart⟩
theorem own_type {w : World} {base : Nat} {e : TypeId} {sz n k : Nat} {v : Value} {xs : List Value} (h : w.ownsRow base e sz v n xs) (hk : v.ownBlock = some k) : ∃ cs, w.heap[k]? = some (.cells cs e (0, 0)) := by
 rcases h.2 with ⟨rfl, _⟩ | ⟨g, cap, cur, rfl, _, hg, _⟩
 ·simp [Value.ownBlock] at hk
 ·simp [Value.ownBlock] at hk; subst hk; exact ⟨cur, hg⟩
theorem own_ne_type {w : World} {b1 b2 : Nat} {e1 e2 : TypeId} {s1 s2 n1 n2 : Nat} {v1 v2 : Value} {x1 x2 : List Value} (h1 : w.ownsRow b1 e1 s1 v1 n1 x1) (h2 : w.ownsRow b2 e2 s2 v2 n2 x2) (hne : e1 ≠ e2) : v1.ownBlock = none ∨ v1.ownBlock ≠ v2.ownBlock := by
 cases hk : v1.ownBlock with
 | none => exact .inl rfl
 | some k =>
  refine .inr fun e => ?_
  obtain ⟨c1, hc1⟩ := own_type h1 hk
  obtain ⟨c2, hc2⟩ := own_type h2 e.symm
  rw [hc1] at hc2
  injection hc2 with hc2
  injection hc2 with _ ht
  exact hne ht
theorem own_other_type {w w' : World} {b1 b2 : Nat} {e1 e2 : TypeId} {s1 s2 n1 n2 : Nat} {v1 v2 : Value} {x1 x2 : List Value} (h1 : w.ownsRow b1 e1 s1 v1 n1 x1) (h2 : w.ownsRow b2 e2 s2 v2 n2 x2) (hne : e1 ≠ e2) (hg : w.grownBy w' v2.ownBlock) : w'.ownsRow b1 e1 s1 v1 n1 x1 :=
 World.ownsRow.kept h1 hg (own_ne_type h1 h2 hne)
theorem OwnV.otherS {w w' : World} {b2 : Nat} {v2 : Value} {s2 : List Slot} {base : Nat} {v : Value} {vs : List Vol} {bvs : List Value} (h : OwnV w base v vs bvs) (h2 : OwnS w b2 v2 s2) (hg : w.grownBy w' v2.ownBlock) : OwnV w' base v vs bvs :=
 ⟨⟨h.row.len, own_other_type h.row.row h2 (by decide) hg⟩, fun m x b hx hb => own_other_type (h.inner m x b hx hb) h2 (by decide) hg, h.apart⟩
theorem OwnV.nil (w : World) (base : Nat) : OwnV w base (.slice none 0 0) [] [] :=
 ⟨⟨rfl, World.ownsRow_nil _ _ _ _⟩, fun m x b hx _ => by simp at hx, fun i j b b' k _ hb => by simp at hb⟩
structure OwnP (w : World) (base : Nat) (v0 v1 : Value) (p : Pool) (bvs : List Value) : Prop where
  s : OwnS w base v0 p.slots
  v : OwnV w base v1 p.vols bvs
theorem OwnP.bel {w w' : World} {base : Nat} {v0 v1 : Value} {p : Pool} {bvs : List Value} (h : OwnP w base v0 v1 p bvs) (hb : Bel w w') : OwnP w' base v0 v1 p bvs := ⟨h.s.bel hb, h.v.bel hb⟩
theorem OwnP.reads {w : World} {base : Nat} {v0 v1 : Value} {p : Pool} {bvs : List Value} (h : OwnP w base v0 v1 p bvs) : ∃ A0 A1 c0 c1, v0 = .slice A0 p.slots.length c0 ∧ v1 = .slice A1 p.vols.length c1 ∧ PoolIn w A0 A1 c0 c1 p := by
 obtain ⟨A0, c0, h0, l0, g0⟩ := h.s.reads
 obtain ⟨A1, c1, h1, l1, g1⟩ := h.v.reads
 exact ⟨A0, A1, c0, c1, h0, h1, g0, l0, g1, l1⟩
theorem own_lower {w : World} {b b' : Nat} {e : TypeId} {sz n : Nat} {v : Value} {xs : List Value} (h : w.ownsRow b e sz v n xs) (hb : b' ≤ b) : w.ownsRow b' e sz v n xs := own_weaken h hb
theorem OwnP.lower {w : World} {b b' : Nat} {v0 v1 : Value} {p : Pool} {bvs : List Value} (h : OwnP w b v0 v1 p bvs) (hb : b' ≤ b) : OwnP w b' v0 v1 p bvs :=
 ⟨own_lower h.s hb, ⟨h.v.row.len, own_lower h.v.row.row hb⟩, fun m x b hx hbb => own_lower (h.v.inner m x b hx hbb) hb, h.v.apart⟩
theorem Blk.set {w : World} {b : Nat} {cs cs' : Array Value} {t : TypeId} (h : Blk w b cs t) (i : Nat) (u : Value) (e : cs.setIfInBounds i u = cs') : Blk (w.setCell ⟨b, i, none⟩ u) b cs' t := e ▸ blk_set h i u
theorem bel_set {w w1 : World} (h : Bel w w1) {b : Nat} (hb : w.heap.size ≤ b) (i : Nat) (u : Value) : Bel w (w1.setCell ⟨b, i, none⟩ u) := h.setCell hb u
theorem OwnS.far {w : World} {base : Nat} {v : Value} {s : List Slot} (h : OwnS w base v s) {b : Nat} {cs : Array Value} {t : TypeId} (hB : Blk w b cs t) (ht : 90 ≠ t) (i : Nat) (u : Value) : OwnS (w.setCell ⟨b, i, none⟩ u) base v s :=
 own_setCell (p := ⟨b, i, none⟩) h (own_ne h hB ht) u
theorem OwnI.far {w : World} {base : Nat} {v : Value} {s : List Int} (h : OwnI w base v s) {b : Nat} {cs : Array Value} {t : TypeId} (hB : Blk w b cs t) (ht : 3 ≠ t) (i : Nat) (u : Value) : OwnI (w.setCell ⟨b, i, none⟩ u) base v s :=
 own_setCell (p := ⟨b, i, none⟩) h (own_ne h hB ht) u
theorem VRow.far {w : World} {base : Nat} {v : Value} {vs : List Vol} {bvs : List Value} (h : VRow w base v vs bvs) {b : Nat} {cs : Array Value} {t : TypeId} (hB : Blk w b cs t) (ht : 84 ≠ t) (i : Nat) (u : Value) : VRow (w.setCell ⟨b, i, none⟩ u) base v vs bvs :=
 ⟨h.len, own_setCell (p := ⟨b, i, none⟩) h.row (own_ne h.row hB ht) u⟩
theorem OwnV.far {w : World} {base : Nat} {v : Value} {vs : List Vol} {bvs : List Value} (h : OwnV w base v vs bvs) {b : Nat} {cs : Array Value} {t : TypeId} (hB : Blk w b cs t) (ht : 84 ≠ t) (ht2 : 3 ≠ t) (i : Nat) (u : Value) : OwnV (w.setCell ⟨b, i, none⟩ u) base v vs bvs :=
 ⟨h.row.far hB ht i u, fun m x c hx hc => (h.inner m x c hx hc).far hB ht2 i u, h.apart⟩
theorem OwnP.far {w : World} {base : Nat} {v0 v1 : Value} {p : Pool} {bvs : List Value} (h : OwnP w base v0 v1 p bvs) {b : Nat} {cs : Array Value} {t : TypeId} (hB : Blk w b cs t) (hs : 90 ≠ t) (ht : 84 ≠ t) (ht2 : 3 ≠ t) (i : Nat) (u : Value) : OwnP (w.setCell ⟨b, i, none⟩ u) base v0 v1 p bvs :=
 ⟨h.s.far hB hs i u, h.v.far hB ht ht2 i u⟩
def MadeS (w : World) (s : List Slot) (e : Ending) (w' : World) : Prop := ∃ v, e = .returned v ∧ OwnS w' w.heap.size v s ∧ Bel w w'
theorem l2Copy_c {w : World} {A : Option Addr} {c : Nat} {s : List Slot} (hC : kSlot.C w A s.length s) (hl : s.length ≤ 1048576) :
  Calls Tryz.prog 153 #[.slice A s.length c] w (MadeS w s) := by
 have H := Lib.hid hC
 clear hC
 go_enter Tryz.func153, Tryz.ntmps153
 go_wp2_with (at_builtin; refine Kd.R_append_rows kSlot (w0 := w) w.heap.size rfl (.tmp 3) (.tmp 4) 41 90 (.agg #[.string ⟨#[]⟩, .int .i64 0]) 24 rfl Tryz.underlying41 info_slot rfl (by decide) (by decide) _ [] s _ _ _ (fun _ => True) (fun _ => False) rfl rfl (R_emptyS w w.heap.size (Nat.le_refl _)) (Kd.C_alloc H.out _) (fun _ _ h => h) (fun _ h => h.elim) (fun _ _ => trivial) ?a2 ?a3 ?a4 ?_; (case a2 => exact bel_alloc (Below.refl _ _) _); (case a3 => simp); (case a4 => simp; omega); intro v1 w1 ho hb hg hat)
 go_ret
 exact ⟨_, rfl, ownS_of_R ho, hb⟩
theorem cloneS_c {w : World} {A : Option Addr} {c : Nat} {s : List Slot} (hC : kSlot.C w A s.length s) (hl : s.length ≤ 1048576) :
  Calls Tryz.prog 130 #[.slice A s.length c] w (MadeS w s) := by
 have H := Lib.hid hC
 clear hC
 have hn := @Lib.run_eql_slice_nil Tryz.prog
 cases A with
 | none =>
  have h0 : s = [] := by
   cases s with
   | nil => rfl
   | cons a s => obtain ⟨ad, e, _⟩ := H.out.2.2 (by simp); cases e
  subst h0
  go_enter Tryz.func130, Tryz.ntmps130
  go_wp2
  go_ret
  exact ⟨_, rfl, World.ownsRow_nil _ _ _ _, Below.refl _ _⟩
 | some ad =>
  go_enter Tryz.func130, Tryz.ntmps130
  go_wp2_with (at_builtin; refine Kd.R_append_rows kSlot (w0 := w) w.heap.size rfl (.tmp 5) (.tmp 6) 41 90 (.agg #[.string ⟨#[]⟩, .int .i64 0]) 24 rfl Tryz.underlying41 info_slot rfl (by decide) (by decide) _ [] s _ _ _ (fun _ => True) (fun _ => False) rfl rfl (R_emptyS w w.heap.size (Nat.le_refl _)) (Kd.C_alloc H.out _) (fun _ _ h => h) (fun _ h => h.elim) (fun _ _ => trivial) ?a2 ?a3 ?a4 ?_; (case a2 => exact bel_alloc (Below.refl _ _) _); (case a3 => simp); (case a4 => simp; omega); intro v1 w1 ho hb hg hat)
  go_ret
  exact ⟨_, rfl, ownS_of_R ho, hb⟩
def MadeI (w : World) (s : List Int) (e : Ending) (w' : World) : Prop := ∃ v, e = .returned v ∧ OwnI w' w.heap.size v s ∧ Bel w w'
theorem cloneI_c {w : World} {A : Option Addr} {c : Nat} {s : List Int} (hC : kInt.C w A s.length s) (hl : s.length ≤ 1048576) :
  Calls Tryz.prog 132 #[.slice A s.length c] w (MadeI w s) := by
 have H := Lib.hid hC
 clear hC
 have hn := @Lib.run_eql_slice_nil Tryz.prog
 cases A with
 | none =>
  have h0 : s = [] := by
   cases s with
   | nil => rfl
   | cons a s => obtain ⟨ad, e, _⟩ := H.out.2.2 (by simp); cases e
  subst h0
  go_enter Tryz.func132, Tryz.ntmps132
  go_wp2
  go_ret
  exact ⟨_, rfl, World.ownsRow_nil _ _ _ _, Below.refl _ _⟩
 | some ad =>
  go_enter Tryz.func132, Tryz.ntmps132
  go_wp2_with (at_builtin; refine Kd.R_append_rows kInt (w0 := w) w.heap.size rfl (.tmp 5) (.tmp 6) 82 3 (.int .i64 0) 8 rfl Tryz.underlying82 info_int rfl (by decide) (by decide) _ [] s _ _ _ (fun _ => True) (fun _ => False) rfl rfl (R_emptyI w w.heap.size (Nat.le_refl _)) (Kd.C_alloc H.out _) (fun _ _ h => h) (fun _ h => h.elim) (fun _ _ => trivial) ?a2 ?a3 ?a4 ?_; (case a2 => exact bel_alloc (Below.refl _ _) _); (case a3 => simp); (case a4 => simp; omega); intro v1 w1 ho hb hg hat)
  go_ret
  exact ⟨_, rfl, ownI_of_R ho, hb⟩
def MadeVR (w0 w : World) (vs : List Vol) (e : Ending) (w' : World) : Prop := ∃ v bvs, e = .returned v ∧ VRow w' w.heap.size v vs bvs ∧
 (∀ (m : Nat) (x : Vol) (b : Value), vs[m]? = some x → bvs[m]? = some b → ∃ A c, b = .slice A x.blocks.length c ∧ x.blocks.length ≤ c ∧ kInt.C w0 A x.blocks.length x.blocks) ∧ Bel w w'
theorem vrow_of_R {w w0 : World} {base : Nat} {ok : Nat → Prop} {v : Value} {vs : List Vol} (h : (Kd.fixed kVol w0).R 84 w base ok v vs) : ∃ bvs, VRow w base v vs bvs ∧
  ∀ (m : Nat) (x : Vol) (b : Value), vs[m]? = some x → bvs[m]? = some b → ∃ A c, b = .slice A x.blocks.length c ∧ x.blocks.length ≤ c ∧ kInt.C w0 A x.blocks.length x.blocks := by
 obtain ⟨_, inner, ho, hr⟩ := h
 have hr' : Reps (kVol.K w0) 2 vs inner := hr
 clear hr
 have key : ∀ (vs : List Vol) (inner : List Value), Reps (kVol.K w0) 2 vs inner → ∃ bvs : List Value, bvs.length = vs.length ∧ inner = (vs.zip bvs).flatMap encV ∧ ∀ (m : Nat) (x : Vol) (b : Value), vs[m]? = some x → bvs[m]? = some b → ∃ A c, b = .slice A x.blocks.length c ∧ x.blocks.length ≤ c ∧ kInt.C w0 A x.blocks.length x.blocks := by
  intro vs
  induction vs with
  | nil => intro inner h; exact ⟨[], rfl, List.length_eq_zero_iff.1 h.1, fun m x b hx _ => by simp at hx⟩
  | cons x xs ih =>
   intro inner h
   have h0 := h.2 0 x rfl
   obtain ⟨A, c, e, hc, hC⟩ := kVol_open h0
   rw [Nat.zero_mul, List.drop_zero] at e
   obtain ⟨bvs, hl, hin, hall⟩ := ih (inner.drop 2) ⟨by rw [List.length_drop, h.1, List.length_cons, Nat.add_mul]; omega, fun j p hp => by
    have := h.2 (j + 1) p (by simpa using hp)
    rw [List.drop_drop, show 2 + j * 2 = (j + 1) * 2 by omega]
    exact this⟩
   refine ⟨.slice A x.blocks.length c :: bvs, by simp [hl], ?_, ?_⟩
   ·rw [List.zip_cons_cons, List.flatMap_cons, ← hin]
    conv => lhs; rw [← List.take_append_drop 2 inner, e]
    rfl
   ·intro m y b hy hb
    cases m with
    | zero => simp at hy hb; subst hy; subst hb; exact ⟨A, c, rfl, hc, hC⟩
    | succ m => exact hall m y b (by simpa using hy) (by simpa using hb)
 obtain ⟨bvs, hl, rfl, hall⟩ := key vs inner hr'
 exact ⟨bvs, ⟨hl, ho⟩, hall⟩
theorem R_emptyV (w w0 : World) (base : Nat) (hb : base ≤ w.heap.size) : (Kd.fixed kVol w0).R 84 (w.alloc (.cells #[] 84)) base (fun _ => True) (.slice (some ⟨w.heap.size, 0, none⟩) 0 0) [] := ⟨fun _ _ => trivial, [], own_empty w base _ _ hb, Reps.none _ _⟩
theorem cloneV_c {w0 w : World} {A : Option Addr} {c : Nat} {vs : List Vol} (hC : kVol.C w0 A vs.length vs) (hbw : Bel w0 w) (hl : vs.length ≤ 1048576) :
  Calls Tryz.prog 131 #[.slice A vs.length c] w (MadeVR w0 w vs) := by
 have H := Lib.hid hC
 have HB := Lib.hid hbw
 clear hC hbw
 have hn := @Lib.run_eql_slice_nil Tryz.prog
 cases A with
 | none =>
  have h0 : vs = [] := by
   cases vs with
   | nil => rfl
   | cons a s => obtain ⟨ad, e, _⟩ := H.out.2.2 (by simp); cases e
  subst h0
  go_enter Tryz.func131, Tryz.ntmps131
  go_wp2
  go_ret
  exact ⟨_, [], rfl, ⟨rfl, World.ownsRow_nil _ _ _ _⟩, fun m x b hx _ => by simp at hx, Below.refl _ _⟩
 | some ad =>
  go_enter Tryz.func131, Tryz.ntmps131
  go_wp2_with (at_builtin; refine Kd.R_append_rows (Kd.fixed kVol w0) (w0 := w) (Rr := kVol.K w0) w.heap.size rfl (.tmp 5) (.tmp 6) 42 84 (.agg #[.string ⟨#[]⟩, .slice none 0 0]) 40 rfl Tryz.underlying42 info_vol rfl (show 0 < kVol.sz by decide) (by decide) _ [] vs _ _ _ (fun _ => True) (fun _ => False) rfl rfl (R_emptyV w w0 w.heap.size (Nat.le_refl _)) ?a1 (fun _ _ h => h) (fun _ h => h.elim) (fun _ _ => trivial) ?a2 ?a3 ?a4 ?_; (case a1 => exact ReadsRow.imp_ H.out (bel_alloc HB.out _) (fun _ _ h => h)); (case a2 => exact bel_alloc (Below.refl _ _) _); (case a3 => simp); (case a4 => simp; omega); intro v1 w1 ho hb hg hat)
  go_ret
  obtain ⟨bvs, h1, h2⟩ := vrow_of_R ho
  exact ⟨_, bvs, rfl, h1, h2, hb⟩
def Left (C : Prop) (left : Int) (w : World) (e : Ending) (w' : World) : Prop := ∃ r : Int, e = .returned (.int .i64 r) ∧ Bel w w' ∧ (0 ≤ r → C ∧ r ≤ left) ∧ -1 ≤ r
structure RawS (s : List Slot) : Prop where
  len : s.length ≤ 9223372036854775807
  text : ∀ x ∈ s, x.text.size ≤ 9223372036854775807
structure RawV (vs : List Vol) : Prop where
  len : vs.length ≤ 9223372036854775807
  name : ∀ x ∈ vs, x.name.size ≤ 9223372036854775807
  blocks : ∀ x ∈ vs, x.blocks.length ≤ 9223372036854775807
def kOp : Kd Op := Kd.iso (Kd.pair kInt (Kd.pair Kd.string (Kd.pair Kd.string (Kd.pair kInt Kd.string)))) (fun x : Op => (x.kind, x.name, x.dest, x.n, x.text))
def encO (x : Op) : List Value := [.int .i64 x.kind, .string x.name, .string x.dest, .int .i64 x.n, .string x.text]
theorem encO_len (x : Op) : (encO x).length = 5 := rfl
theorem kOp_open {w : World} {x : Op} {cs : List Value} (h : kOp.K w x cs) : cs = encO x := by
 obtain ⟨_, _, rfl, rfl, ⟨_, _, rfl, rfl, ⟨_, _, rfl, rfl, ⟨_, _, rfl, rfl, rfl⟩⟩⟩⟩ := h
 rfl
theorem kOp_mk (w : World) (x : Op) : kOp.K w x (encO x) := ⟨[.int .i64 x.kind], _, rfl, rfl, ⟨[.string x.name], _, rfl, rfl, ⟨[.string x.dest], _, rfl, rfl, ⟨[.int .i64 x.n], [.string x.text], rfl, rfl, rfl⟩⟩⟩⟩
theorem at_op {w : World} {A : Option Addr} {n : Nat} {xs : List Op} (h : Kd.C kOp w A n xs) {i : Nat} {x : Op} (hx : xs[i]? = some x) : ∃ ad, A = some ad ∧ w.cell? (ad.add (i * 5)) = some (.int .i64 x.kind) ∧ w.cell? ⟨(ad.add (i * 5)).block, (ad.add (i * 5)).off + 1, none⟩ = some (.string x.name) ∧ w.cell? ⟨(ad.add (i * 5)).block, (ad.add (i * 5)).off + 2, none⟩ = some (.string x.dest) ∧ w.cell? ⟨(ad.add (i * 5)).block, (ad.add (i * 5)).off + 3, none⟩ = some (.int .i64 x.n) ∧ w.cell? ⟨(ad.add (i * 5)).block, (ad.add (i * 5)).off + 4, none⟩ = some (.string x.text) := by
 have hl := h.1 ▸ ltQ hx
 obtain ⟨ad, c, e, _, hK, hc0⟩ := Kd.C_get h Op.z i (by omega) (by omega)
 have hc : ∀ j u, c[j]? = some u → w.cell? (ad.add (i * 5 + j)) = some u := hc0
 have he : xs.getD (i : Int).toNat Op.z = x := by rw [List.getD_eq_getElem?_getD, Int.toNat_natCast, hx]; rfl
 rw [he] at hK
 obtain rfl := kOp_open hK
 exact ⟨ad, e, hc 0 _ rfl, by rw [← add_field _ _ 1 (by omega)]; exact hc 1 _ rfl, by rw [← add_field _ _ 2 (by omega)]; exact hc 2 _ rfl, by rw [← add_field _ _ 3 (by omega)]; exact hc 3 _ rfl, by rw [← add_field _ _ 4 (by omega)]; exact hc 4 _ rfl⟩
def OwnO (w : World) (base : Nat) (v : Value) (s : List Op) : Prop := w.ownsRow base 27 5 v s.length (s.flatMap encO)
theorem OwnO.reads {w : World} {base : Nat} {v : Value} {s : List Op} (h : OwnO w base v s) : ∃ A c, v = .slice A s.length c ∧ s.length ≤ c ∧ kOp.C w A s.length s := by
 obtain ⟨A, c, e, hr⟩ := own_reads_row h (reps_flat encO_len s fun x _ => kOp_mk w x) rfl
 obtain ⟨A', c', e', hc⟩ := own_cap h
 rw [e] at e'
 injection e' with _ _ e3
 exact ⟨A, c, e, e3 ▸ hc, hr⟩
theorem OwnO.bel {w w' : World} {base : Nat} {v : Value} {s : List Op} (h : OwnO w base v s) (hb : Bel w w') : OwnO w' base v s := pw_own_below h hb
theorem OwnO.kept {w w' : World} {base : Nat} {v : Value} {s : List Op} {r : Option Nat} (h : OwnO w base v s) (hg : w.grownBy w' r) (hne : v.ownBlock = none ∨ v.ownBlock ≠ r) : OwnO w' base v s := World.ownsRow.kept h hg hne
theorem ownO_of_R {w : World} {base : Nat} {ok : Nat → Prop} {v : Value} {s : List Op} (h : kOp.R 27 w base ok v s) : OwnO w base v s := by
 obtain ⟨_, inner, ho, hr⟩ := h
 have := reps_eq encO_len hr (fun x c hc => by obtain ⟨_, _, rfl, rfl, ⟨_, _, rfl, rfl, ⟨_, _, rfl, rfl, ⟨_, _, rfl, rfl, rfl⟩⟩⟩⟩ := hc; rfl)
 rw [this] at ho
 exact ho
theorem R_ownO {w : World} {base : Nat} {v : Value} {s : List Op} (h : OwnO w base v s) : kOp.R 27 w base (fun _ => True) v s :=
 ⟨fun _ _ => trivial, _, h, reps_flat encO_len s fun x _ => ⟨[.int .i64 x.kind], _, rfl, rfl, ⟨[.string x.name], _, rfl, rfl, ⟨[.string x.dest], _, rfl, rfl, ⟨[.int .i64 x.n], [.string x.text], rfl, rfl, rfl⟩⟩⟩⟩⟩
theorem R_emptyO (w : World) (base : Nat) (hb : base ≤ w.heap.size) : kOp.R 27 (w.alloc (.cells #[] 27)) base (fun _ => True) (.slice (some ⟨w.heap.size, 0, none⟩) 0 0) [] := R_ownO (own_empty w base _ _ hb)
theorem info_opR : (Tryz.prog.info? 27).map (fun i => (i.zero, i.size, i.bytes)) = some (some (.agg #[.int .i64 0, .string ⟨#[]⟩, .string ⟨#[]⟩, .int .i64 0, .string ⟨#[]⟩]), 5, 64) := by kernel_rfl
def MadeO (w : World) (s : List Op) (e : Ending) (w' : World) : Prop := ∃ v, e = .returned v ∧ OwnO w' w.heap.size v s ∧ Bel w w'
theorem OwnO.at {w : World} {base : Nat} {v : Value} {s : List Op} (h : OwnO w base v s) {m : Nat} {x : Op} (hx : s[m]? = some x) :
  ∃ g cap, v = .slice (some ⟨g, 0, none⟩) s.length cap ∧ base ≤ g ∧ g < w.heap.size ∧ s.length ≤ cap ∧ (∀ j, j < 5 → w.cell? ⟨g, m * 5 + j, none⟩ = (encO x)[j]?) ∧ ∀ j, w.frozen? ⟨g, j, none⟩ = false := by
 have hm := ltQ hx
 obtain ⟨g, cap, rfl, hb, hg, hc⟩ := own_form h (by omega)
 exact ⟨g, cap, rfl, hb, hg, hc, fun j hj => by rw [World.ownsRow.cellAt h _ (by omega), flat_get encO_len hx hj], fun j => World.ownsRow.frozenAt h j⟩
theorem OwnO.set {w : World} {base g cap : Nat} {s : List Op} (h : OwnO w base (.slice (some ⟨g, 0, none⟩) s.length cap) s) {m j : Nat} {x y : Op} {u : Value} (hx : s[m]? = some x) (hj : j < 5) (he : encO y = (encO x).set j u) :
  OwnO (w.setCell ⟨g, m * 5 + j, none⟩ u) base (.slice (some ⟨g, 0, none⟩) s.length cap) (s.set m y) ∧ w.grownBy (w.setCell ⟨g, m * 5 + j, none⟩ u) (some g) := by
 have := World.ownsRow.stored h (m * 5 + j) u
 rw [flat_set encO_len (y := y) hx hj he] at this
 unfold OwnO
 rw [List.length_set]
 exact this
structure SmallOs (s : List Op) : Prop where
  len : s.length ≤ 1048576
  op : ∀ x ∈ s, SmallO x
theorem SmallOs.take {s : List Op} (h : SmallOs s) (k : Nat) : SmallOs (s.take k) := ⟨Nat.le_trans (List.length_take_le' _ _) h.len, fun x hx => h.op x (List.mem_of_mem_take hx)⟩
theorem SmallOs.drop {s : List Op} (h : SmallOs s) (k : Nat) : SmallOs (s.drop k) := ⟨by rw [List.length_drop]; exact Nat.le_trans (Nat.sub_le _ _) h.len, fun x hx => h.op x (List.mem_of_mem_drop hx)⟩
structure Node where
  up : Bool
  term : Int
  leads : Bool
  alone : Bool
  ops : List Op
abbrev nC (a0 : Node) (a1 : Option Addr) (a2 : Nat) : Array Value := #[.bool a0.up, .int .i64 a0.term, .bool a0.leads, .bool a0.alone, .slice a1 a0.ops.length a2]
def noN : Node := ⟨false, 0, false, false, []⟩
def kNode : Kd Node := Kd.iso (Kd.pair Kd.bool (Kd.pair kInt (Kd.pair Kd.bool (Kd.pair Kd.bool (Kd.slice 27 kOp))))) (fun x : Node => (x.up, x.term, x.leads, x.alone, x.ops))
def digN (n : Nat) : List UInt8 := if h : n = 0 then [] else digN (n / 10) ++ [UInt8.ofNat (48 + n % 10)]
termination_by n
decreasing_by omega
def mkT (k : Int) : ByteArray := ⟨(109 :: digN k.toNat).toArray⟩
def MkI (k : Int) (xs : List Int) : Prop := ∀ (i : Nat) (x : Int), xs[i]? = some x → x = k + i
def MkS (k : Int) (s : List Slot) : Prop := ∀ (i : Nat) (x : Slot), s[i]? = some x → x.text = mkT (k + 2 * i) ∧ x.uses = k + 2 * i + 1
def nxV (k : Int) : List Vol → Int
 | [] => k
 | v :: vs => nxV (k + 1 + v.blocks.length) vs
theorem nxV_le {vs : List Vol} (h : ∀ v ∈ vs, v.blocks.length ≤ 1048576) (k : Int) : k ≤ nxV k vs ∧ nxV k vs ≤ k + vs.length * 1048577 := by
 induction vs generalizing k with
 | nil => simp [nxV]
 | cons a vs ih =>
  have h1 := ih (fun v hv => h v (List.mem_cons_of_mem _ hv)) (k + 1 + a.blocks.length)
  have h2 := h a List.mem_cons_self
  simp only [nxV, List.length_cons]
  omega
def MkV (k : Int) (vs : List Vol) : Prop := ∀ (i : Nat) (v : Vol), vs[i]? = some v → v.name = mkT (nxV k (vs.take i)) ∧ MkI (nxV k (vs.take i) + 1) v.blocks
def nxP (k : Int) (p : Pool) : Int := nxV (k + 2 * p.slots.length) p.vols
structure MkP (k : Int) (p : Pool) : Prop where
  s : MkS k p.slots
  v : MkV (k + 2 * p.slots.length) p.vols
theorem OwnI.at {w : World} {base : Nat} {v : Value} {s : List Int} (h : OwnI w base v s) {m : Nat} {x : Int} (hx : s[m]? = some x) :
  ∃ g cap, v = .slice (some ⟨g, 0, none⟩) s.length cap ∧ base ≤ g ∧ g < w.heap.size ∧ s.length ≤ cap ∧ w.cell? ⟨g, m, none⟩ = some (.int .i64 x) ∧ w.frozen? ⟨g, m, none⟩ = false := by
 have hm := ltQ hx
 obtain ⟨g, cap, rfl, hb, hg, hc⟩ := own_form h (by omega)
 refine ⟨g, cap, rfl, hb, hg, hc, ?_, World.ownsRow.frozenAt h _⟩
 rw [World.ownsRow.cellAt h _ (by omega), show m = m * 1 + 0 by omega, flat_get encI_len hx (by omega)]; rfl
theorem OwnI.set {w : World} {base g cap : Nat} {s : List Int} (h : OwnI w base (.slice (some ⟨g, 0, none⟩) s.length cap) s) {m : Nat} {x : Int} (hx : s[m]? = some x) (u : Int) :
  OwnI (w.setCell ⟨g, m, none⟩ (.int .i64 u)) base (.slice (some ⟨g, 0, none⟩) s.length cap) (s.set m u) ∧ w.grownBy (w.setCell ⟨g, m, none⟩ (.int .i64 u)) (some g) := by
 have := World.ownsRow.stored h (m * 1 + 0) (.int .i64 u)
 rw [flat_set encI_len (y := u) hx (by omega) rfl, show m * 1 + 0 = m by omega] at this
 unfold OwnI
 rw [List.length_set]
 exact this
def MarkedI (k : Int) (w : World) (base : Nat) (v : Value) (n : Nat) (e : Ending) (w' : World) : Prop := e = .returned (.int .i64 (k + n)) ∧ (∃ s, s.length = n ∧ OwnI w' base v s ∧ MkI k s) ∧ w.grownBy w' v.ownBlock
def MarkedS (k : Int) (w : World) (base : Nat) (v : Value) (n : Nat) (e : Ending) (w' : World) : Prop := e = .returned (.int .i64 (k + 2 * n)) ∧ (∃ s, s.length = n ∧ OwnS w' base v s ∧ MkS k s) ∧ w.grownBy w' v.ownBlock
theorem Blk.nw2 (w : World) (o : Obj) (cs : Array Value) (t : TypeId) : Blk ((w.alloc o).alloc (.cells cs t)) (w.heap.size + 1) cs t := by
 have := Blk.new (w.alloc o) cs t
 rwa [show (w.alloc o).heap.size = w.heap.size + 1 by simp] at this
def newS : List Slot := List.replicate 8 Slot.z
def newP : Pool := ⟨newS, []⟩
theorem kSlot_mkM (w : World) (base : Nat) (ok : Nat → Prop) (x : Slot) : kSlot.M w base ok x [.string x.text, .int .i64 x.uses] := ⟨[.string x.text], [.int .i64 x.uses], rfl, rfl, rfl⟩
theorem implStoreNew_c (w : World) : Calls Tryz.prog 57 #[] w (MadeS w newS) := by
 go_enter Tryz.func57, Tryz.ntmps57
 go_wp2_with ((with_reducible refine gate_dst (N := 1) rfl ?_); refine Kd.R_make (w0 := w) kSlot _ 90 rfl (N := 1) rfl 41 _ _ rfl 8 rfl rfl Tryz.underlying41 (.agg #[.string ⟨#[]⟩, .int .i64 0]) 24 info_slot rfl (by decide) (by omega) Slot.z (ok := fun _ => True) (okp := fun _ => True) (kSlot_mkM _ _ _ Slot.z) (fun _ hk => hk) trivial (by omega) (by omega) (Below.refl _ _) (Nat.le_refl _) ?_; intro v1 w2 ho hb hg_ hnew_; clear hg_ hnew_)
 go_ret
 exact ⟨_, rfl, ownS_of_R ho, hb⟩
theorem specStoreNew_c (w : World) : Calls Tryz.prog 87 #[] w (MadeS w newS) := by
 go_enter Tryz.func87, Tryz.ntmps87
 go_wp2_with ((with_reducible refine gate_dst (N := 1) rfl ?_); refine Kd.R_make (w0 := w) kSlot _ 90 rfl (N := 1) rfl 41 _ _ rfl 8 rfl rfl Tryz.underlying41 (.agg #[.string ⟨#[]⟩, .int .i64 0]) 24 info_slot rfl (by decide) (by omega) Slot.z (ok := fun _ => True) (okp := fun _ => True) (kSlot_mkM _ _ _ Slot.z) (fun _ hk => hk) trivial (by omega) (by omega) (Below.refl _ _) (Nat.le_refl _) ?_; intro v1 w2 ho hb hg_ hnew_; clear hg_ hnew_)
 go_ret
 exact ⟨_, rfl, ownS_of_R ho, hb⟩
def MadeP (w : World) (p : Pool) (e : Ending) (w' : World) : Prop := ∃ v0 v1 bvs, e = .returned (.agg #[v0, v1]) ∧ OwnP w' w.heap.size v0 v1 p bvs ∧ Bel w w'
theorem implPoolNew_c (w : World) : Calls Tryz.prog 27 #[] w (MadeP w newP) := by
 go_enter Tryz.func27, Tryz.ntmps27
 go_wp2_with fail
 refine (implStoreNew_c _).mono ?_
 rintro e w1 ⟨v0, rfl, ho, hb⟩
 obtain ⟨A, c, rfl, hc, hC⟩ := ho.reads
 have hB := (Blk.new w #[.slice none 0 0, .slice none 0 0] 44).bel hb
 obtain ⟨q0, q1, f0, f1, hz⟩ := k2f hB
 go_wp2
 have hB1 := hB.set 0 (.slice A newS.length c) (cs' := #[.slice A newS.length c, .slice none 0 0]) rfl
 have hB2 := hB1.set 1 (.slice none 0 0) (cs' := #[.slice A newS.length c, .slice none 0 0]) rfl
 refine bodyPost_ret (results_cell_row rfl _ _ w.heap.size 44 #[.slice A newS.length c, .slice none 0 0] (0, 0) _ rfl hB2 Tryz.underlying44 rfl (by kernel_rfl)) rfl ?_
 have hos : OwnS w1 w.heap.size (.slice A newS.length c) newS := own_lower ho (by simp)
 refine ⟨_, _, [], rfl, ⟨(hos.far hB (by decide) _ _).far hB1 (by decide) _ _, OwnV.nil _ _⟩, bel_set (bel_set ((bel_alloc (Below.refl _ _) _).tr hb) (Nat.le_refl _) _ _) (Nat.le_refl _) _ _⟩
theorem OwnV.empty (w : World) (base : Nat) (hb : base ≤ w.heap.size) : OwnV (w.alloc (.cells #[] 84)) base (.slice (some ⟨w.heap.size, 0, none⟩) 0 0) [] [] :=
 ⟨⟨rfl, own_empty w base _ _ hb⟩, fun m x b hx _ => by simp at hx, fun i j b b' k _ hb => by simp at hb⟩
theorem specPoolNew_c (w : World) : Calls Tryz.prog 51 #[] w (MadeP w newP) := by
 go_enter Tryz.func51, Tryz.ntmps51
 go_wp2_with fail
 refine (specStoreNew_c _).mono ?_
 rintro e w1 ⟨v0, rfl, ho, hb⟩
 obtain ⟨A, c, rfl, hc, hC⟩ := ho.reads
 have hB0 := (Blk.new w #[.slice none 0 0, .slice none 0 0] 44).bel hb
 obtain ⟨q0, q1, f0, f1, hz⟩ := k2f hB0
 go_wp2
 have hB1 := hB0.set 0 (.slice A newS.length c) (cs' := #[.slice A newS.length c, .slice none 0 0]) rfl
 have hB2 := hB1.set 1 (.slice (some ⟨w1.heap.size, 0, none⟩) 0 0) (cs' := #[.slice A newS.length c, .slice (some ⟨w1.heap.size, 0, none⟩) 0 0]) rfl
 have hos : OwnS w1 w.heap.size (.slice A newS.length c) newS := own_lower ho (by simp)
 have hos2 := (hos.far hB0 (by decide) 0 (.slice A newS.length c)).far hB1 (by decide) 1 (.slice (some ⟨w1.heap.size, 0, none⟩) 0 0)
 have hb2 := bel_set (bel_set ((bel_alloc (Below.refl _ _) _).tr hb) (Nat.le_refl _) 0 (.slice A newS.length c)) (Nat.le_refl _) 1 (.slice (some ⟨w1.heap.size, 0, none⟩) 0 0)
 have hz2 : w1.heap.size = ((w1.setCell ⟨w.heap.size, 0, none⟩ (.slice A newS.length c)).setCell ⟨w.heap.size, 1, none⟩ (.slice (some ⟨w1.heap.size, 0, none⟩) 0 0)).heap.size := by simp
 have hov : OwnV (World.alloc ((w1.setCell ⟨w.heap.size, 0, none⟩ (.slice A newS.length c)).setCell ⟨w.heap.size, 1, none⟩ (.slice (some ⟨w1.heap.size, 0, none⟩) 0 0)) (.cells #[] 84)) w.heap.size (.slice (some ⟨w1.heap.size, 0, none⟩) 0 0) [] [] := by
  have := OwnV.empty ((w1.setCell ⟨w.heap.size, 0, none⟩ (.slice A newS.length c)).setCell ⟨w.heap.size, 1, none⟩ (.slice (some ⟨w1.heap.size, 0, none⟩) 0 0)) w.heap.size (by rw [← hz2]; omega)
  rwa [← hz2] at this
 refine bodyPost_ret (results_cell_row rfl _ _ w.heap.size 44 #[.slice A newS.length c, .slice (some ⟨w1.heap.size, 0, none⟩) 0 0] (0, 0) _ rfl (hB2.alloc _) Tryz.underlying44 rfl (by kernel_rfl)) rfl ?_
 exact ⟨_, _, [], rfl, ⟨OwnS.bel hos2 (bel_alloc (Below.refl _ _) _), hov⟩, bel_alloc hb2 _⟩
end Go.Proofs.YtljfoglilggkjaaGreat

/- Contracts of the program's and the reference's functions, and the plain laws behind them: part 1 of 1. -/
import Derived.Below
import Derived.Deep.Draws
import Derived.Deep.AppendLies
import Derived.Maps.AppendAt
import Derived.OwnWalk
import Derived.Laws.BytesArg
import Derived.Laws.MakeOwn
import Derived.Laws.OwnMore
import Derived.Deep.OwnRows
import Derived.Tactics
import Derived.Lib.ConvBytes
import Derived.Laws.Slices
import Derived.WalkKit
import Derived.KernelRfl
import Derived.RowKit3
import Derived.Deep.LoopGhost
import Derived.Deep.QuietTactic
import Derived.BigQuiet
import Derived.WideLaws
import Derived.Deep.DeepCutAuto
import Derived.Deep.CutBlock
import Derived.Deep.RegionHeld3
import Derived.Laws.Rows
import Derived.Lib.AppendStr
import Derived.ArgAppend
import Derived.Laws.IdiomCopy
import Derived.RowKit
import Derived.Test.YtccllgpaafgjaaaProg
import Derived.StillTailTactics
import Derived.Deep.RegionWith
import Derived.Deep.DeepFit
import Derived.Outline
import Derived.Says
import Derived.Lib.Hide
import Derived.WalkLawsBesides
import Derived.WalkSpells
import Derived.OrdersHeld
import Derived.Laws.BitsLemmas
import Derived.Deep.RegionLaw
import Derived.Shelf.RegionOpenPlain
import Derived.Lib.Overlaps
import Derived.Lib.AppendZerosOnto
import Derived.Lib.SliceRun
import Derived.Lib.Bytealg
import Derived.Laws.Externs
import Derived.Deep.Slices
import Derived.Deep.Fields
import Derived.ChangeSame
import Derived.ChangeArms
import Derived.Lib.SmallJoins
import Derived.WideShapes
import Derived.OpenShut
import Derived.Test.YtccllgpaafgjaaaRows
import Derived.JoinedOf
set_option linter.unusedVariables false
set_option linter.unusedSimpArgs false
namespace Go.Proofs.YtccllgpaafgjaaaW.PrintWords
open Go.RowKit

/-- A fact that the walk's simp doesn't look into. -/
structure Aside0 (p : Prop) : Prop where mk :: (out : p)
/-- The world is the old one, some orders having been drawn. -/
structure Drawn0 (w w' : World) : Prop where mk :: (out : ∃ n, w' = w.drewN n)
theorem Drawn0.refl (w : World) : Drawn0 w w := ⟨⟨0, rfl⟩⟩
theorem Drawn0.step {w w' : World} (h : Drawn0 w w') (n : Nat) : Drawn0 w (w'.drewN n) := by
  obtain ⟨m, rfl⟩ := h
  exact ⟨⟨m + n, World.drewN_drewN ..⟩⟩
theorem Drawn0.grown {w w' : World} (h : Drawn0 w w') : Grown w w' := by
  obtain ⟨n, rfl⟩ := h
  induction n with
  | zero => exact Grown.refl _
  | succ n ih => rw [← World.drew_drewN]; exact Grown.drew ih
theorem Drawn0.below {w w' : World} (h : Drawn0 w w') : Below w.heap.size w w' := by
  obtain ⟨n, rfl⟩ := h
  induction n with
  | zero => exact Below.refl _ _
  | succ n ih => rw [← World.drew_drewN]; exact ih.drew


/-! ### 1. Values and lists -/
def rd (xs : List Int) (i : Int) : Int := xs.getD i.toNat 0
def bt (s : ByteArray) (i : Int) : Int := if h : i.toNat < s.size then ((s[i.toNat]'h).toNat : Int) else 0
def nums (k : IntKind) (xs : List Int) : List Value := xs.map fun x => .int k x
def bools (xs : List Bool) : List Value := xs.map fun x => .bool x
def pw_strs (xs : List ByteArray) : List Value := xs.map fun x => .string x
/-! ### 2. The world -/
theorem below_alloc {w W : World} (h : Below w.heap.size w W) (o : Obj) : Below w.heap.size w (W.alloc o) := h.alloc h.size o
theorem grown_of_below {w w1 : World} (h : Below w.heap.size w w1) (row : Option Nat) : w.grownBy w1 row := ⟨h.os, h.tape, h.output, h.size, fun i hi _ => h.block i hi⟩
theorem pw_cell_below {w w1 : World} (h : Below w.heap.size w w1) {a : Addr} {v : Value} (hc : w.cell? a = some v) : w1.cell? a = some v := (h.cell (World.block_lt_of_cell? w a hc)).trans hc

/-! ### 3. A slice of whole numbers that is read; nil, empty and other slices alike -/
def ReadsInt (w : World) (k : IntKind) (A : Option Addr) (n : Nat) (xs : List Int) : Prop :=
  xs.length = n ∧ n ≤ 9223372036854775807 ∧ (0 < n → ∃ ad, A = some ad ∧ ∀ j, j < n → w.cell? (ad.add j) = some (.int k (xs.getD j 0)))
theorem ReadsInt.below {w w1 : World} {k : IntKind} {A : Option Addr} {n : Nat} {xs : List Int} (h : ReadsInt w k A n xs) (hb : Below w.heap.size w w1) : ReadsInt w1 k A n xs :=
  ⟨h.1, h.2.1, fun hn => by
    obtain ⟨ad, e, hc⟩ := h.2.2 hn
    exact ⟨ad, e, fun j hj => pw_cell_below hb (hc j hj)⟩⟩

/-! ### 4. A row of the call's own -/
theorem own_base {w : World} {base : Nat} {e : TypeId} {size n : Nat} {v : Value} {xs : List Value} (h : w.ownsRow base e size v n xs) (k : Nat) (hk : v.ownBlock = some k) : base ≤ k := by
  rcases h.2 with ⟨rfl, _⟩ | ⟨g, cap, cur, rfl, hb, _⟩
  · simp [Value.ownBlock] at hk
  · have : g = k := by simpa [Value.ownBlock] using hk
    omega
theorem own_lt {w : World} {base : Nat} {e : TypeId} {size n : Nat} {v : Value} {xs : List Value} (h : w.ownsRow base e size v n xs) (k : Nat) (hk : v.ownBlock = some k) : k < w.heap.size := by
  rcases h.2 with ⟨rfl, _⟩ | ⟨g, cap, cur, rfl, hb, hh, _⟩
  · simp [Value.ownBlock] at hk
  · have : g = k := by simpa [Value.ownBlock] using hk
    subst this
    exact (Array.getElem?_eq_some_iff.1 hh).1
theorem pw_own_below {w w1 : World} {base : Nat} {e : TypeId} {size n : Nat} {v : Value} {xs : List Value} (h : w.ownsRow base e size v n xs) (hb : Below w.heap.size w w1) : w1.ownsRow base e size v n xs :=
  h.kept (grown_of_below hb none) (by cases v.ownBlock <;> simp)
/-- What is written is another row: this one lives on. -/
theorem own_other {w w1 : World} {base : Nat} {e : TypeId} {size n : Nat} {v : Value} {xs : List Value} (h : w.ownsRow base e size v n xs) {row : Option Nat} (hg : w.grownBy w1 row) (hne : v.ownBlock = none ∨ v.ownBlock ≠ row) : w1.ownsRow base e size v n xs := h.kept hg hne
/-- The shape of whatever is owned. -/
theorem own_slice {w : World} {base n : Nat} {e : TypeId} {size : Nat} {v : Value} {xs : List Value} (h : w.ownsRow base e size v n xs) : ∃ A c, v = .slice A n c := by
  rcases h.2 with ⟨rfl, rfl⟩ | ⟨g, cap, cur, rfl, _⟩
  · exact ⟨none, 0, rfl⟩
  · exact ⟨_, cap, rfl⟩
/-! ### 5. append(v, x): behind 'at_builtin'; the goal's world is 'W.alloc' of the variadic's box -/
section
variable {P : Program} {ops : Array Oper} {rest : List Oper} {o : Oper} {a : Act} {Q : Exit → Act → World → Prop}

end

/-! ### 6. make([]T, n), n an Int; a literal -/
section
variable {P : Program}
end
/-! ### 7. v[i] read and v[i] = x, v a row of the call's own: 'obtain ⟨g, cap, rfl, hgb, hgl⟩ := HO.out.form (by omega)' first -/
/-! ### 8. append(v, ys...): ys a slice that is read, nil let in; behind 'at_builtin' -/
section
variable {P : Program} {ops : Array Oper} {rest : List Oper} {o : Oper} {a : Act} {Q : Exit → Act → World → Prop}
end

/-! ### 9. []byte(s): a slice that is read (its row bears a conversion's mark: no row of one's own); cuts of a slice that is read -/
def bytesOf (s : ByteArray) : List Int := s.data.toList.map fun b => (b.toNat : Int)
/-! ### 10. Rounds: more rounds give the same answer; what ends gives a number of rounds -/
/-- Where the first answers, the second answers the same. -/
def LeO {α : Type} (a b : Option α) : Prop := ∀ r, a = some r → b = some r
theorem LeO.refl {α : Type} (a : Option α) : LeO a a := fun _ h => h
theorem LeO.none {α : Type} (b : Option α) : LeO Option.none b := fun _ h => by cases h
theorem LeO.trans {α : Type} {a b c : Option α} (h : LeO a b) (k : LeO b c) : LeO a c := fun r hr => k r (h r hr)
theorem LeO.map {α β : Type} {a a' : Option α} (f : α → β) (h : LeO a a') : LeO (a.map f) (a'.map f) := by
  intro r hr
  obtain ⟨x, hx, hf⟩ := Option.map_eq_some_iff.1 hr
  exact Option.map_eq_some_iff.2 ⟨x, h x hx, hf⟩
theorem more_rounds {α : Type} {g : Nat → Option α} (h : ∀ k, LeO (g k) (g (k + 1))) (k : Nat) : ∀ j, LeO (g k) (g (k + j))
  | 0 => LeO.refl _
  | j + 1 => (more_rounds h k j).trans (h (k + j))
theorem at_rounds {α : Type} {g : Nat → Option α} (h : ∀ k, LeO (g k) (g (k + 1))) {k k' : Nat} (hk : k ≤ k') {r : α} (hr : g k = some r) : g k' = some r := by
  have := more_rounds h k (k' - k) r hr
  rwa [Nat.add_sub_cancel' hk] at this
/-- Two that come to their answers, each at rounds of its own, come to them at one number. -/
theorem together {α β : Type} {g : Nat → Option α} {f : Nat → Option β} (hg : ∀ k, LeO (g k) (g (k + 1))) (hf : ∀ k, LeO (f k) (f (k + 1))) {r : α} {q : β} (h : ∃ k, g k = some r) (h' : ∃ k, f k = some q) : ∃ k, g k = some r ∧ f k = some q := by
  obtain ⟨k, hk⟩ := h
  obtain ⟨k', hk'⟩ := h'
  exact ⟨max k k', at_rounds hg (Nat.le_max_left _ _) hk, at_rounds hf (Nat.le_max_right _ _) hk'⟩
/-! ### 11. Rows of elements of several cells (structs): read, made. R: what an element's cells say ('RepItem w': printed for each type) -/
def Reps {α : Type} (R : α → List Value → Prop) (size : Nat) (ps : List α) (cs : List Value) : Prop :=
  cs.length = ps.length * size ∧ ∀ j p, ps[j]? = some p → R p ((cs.drop (j * size)).take size)
theorem Reps.none {α : Type} (R : α → List Value → Prop) (size : Nat) : Reps R size [] [] := ⟨by simp, fun j p h => by simp at h⟩
theorem Reps.snoc {α : Type} {R : α → List Value → Prop} {size : Nat} {ps : List α} {cs c : List Value} {p : α} (h : Reps R size ps cs) (hp : R p c) (hc : c.length = size) : Reps R size (ps ++ [p]) (cs ++ c) := by
  refine ⟨by rw [List.length_append, h.1, hc, List.length_append, List.length_singleton, Nat.add_mul, Nat.one_mul], fun j q hq => ?_⟩
  rcases Nat.lt_or_ge j ps.length with hj | hj
  · rw [List.getElem?_append_left hj] at hq
    have h1 : j * size + size ≤ cs.length := by rw [h.1, ← Nat.succ_mul]; exact Nat.mul_le_mul_right _ hj
    have h2 := h.2 j q hq
    rw [List.drop_append_of_le_length (by omega), List.take_append_of_le_length (by rw [List.length_drop]; omega)]
    exact h2
  · have hj' : j = ps.length := by
      have := (List.getElem?_eq_some_iff.1 hq).1
      rw [List.length_append, List.length_singleton] at this
      omega
    subst hj'
    have hq' : p = q := by simpa using hq
    subst hq'
    rw [← h.1, List.drop_left, ← hc, List.take_length]
    exact hp
theorem Reps.imp_ {α : Type} {R R' : α → List Value → Prop} {size : Nat} {ps : List α} {cs : List Value} (h : Reps R size ps cs) (hR : ∀ p c, R p c → R' p c) : Reps R' size ps cs := ⟨h.1, fun j p hj => hR _ _ (h.2 j p hj)⟩

def ReadsRow {α : Type} (R : α → List Value → Prop) (size : Nat) (w : World) (A : Option Addr) (n : Nat) (ps : List α) : Prop :=
  ps.length = n ∧ n ≤ 9223372036854775807 ∧ (0 < n → ∃ ad, A = some ad ∧ ∀ j p, ps[j]? = some p → ∃ c, c.length = size ∧ R p c ∧ ∀ i u, c[i]? = some u → w.cell? (ad.add (j * size + i)) = some u)
theorem ReadsRow.get_ {α : Type} {R : α → List Value → Prop} {size : Nat} {w : World} {A : Option Addr} {n : Nat} {ps : List α} (h : ReadsRow R size w A n ps) (d : α) (i : Int) (h0 : 0 ≤ i) (h1 : i < n) :
    ∃ ad c, A = some ad ∧ c.length = size ∧ R (ps.getD i.toNat d) c ∧ ∀ j u, c[j]? = some u → w.cell? (ad.add (i.toNat * size + j)) = some u := by
  obtain ⟨ad, e, hc⟩ := h.2.2 (by omega)
  have hl : i.toNat < ps.length := by have := h.1; omega
  obtain ⟨c, hs, hr, hcell⟩ := hc i.toNat _ (List.getElem?_eq_getElem hl)
  refine ⟨ad, c, e, hs, ?_, hcell⟩
  rw [List.getD_eq_getElem?_getD, List.getElem?_eq_getElem hl]
  exact hr
theorem ReadsRow.imp_ {α : Type} {R R' : α → List Value → Prop} {size : Nat} {w w1 : World} {A : Option Addr} {n : Nat} {ps : List α} (h : ReadsRow R size w A n ps) (hb : Below w.heap.size w w1) (hR : ∀ p c, R p c → R' p c) : ReadsRow R' size w1 A n ps :=
  ⟨h.1, h.2.1, fun hn => by
    obtain ⟨ad, e, hc⟩ := h.2.2 hn
    refine ⟨ad, e, fun j p hj => ?_⟩
    obtain ⟨c, hs, hr, hcell⟩ := hc j p hj
    exact ⟨c, hs, hR _ _ hr, fun i u hu => pw_cell_below hb (hcell i u hu)⟩⟩
theorem own_reads_row {α : Type} {R : α → List Value → Prop} {w : World} {base n size : Nat} {e : TypeId} {v : Value} {ps : List α} {cs : List Value} (h : w.ownsRow base e size v n cs) (hR : Reps R size ps cs) (hn : ps.length = n) :
    ∃ A c, v = .slice A n c ∧ ReadsRow R size w A n ps := by
  rcases Nat.eq_zero_or_pos n with h0 | h0
  · rcases h.2 with ⟨rfl, rfl⟩ | ⟨g, cap, cur, rfl, _⟩
    · exact ⟨none, 0, rfl, hn, by omega, fun hp => absurd hp (by omega)⟩
    · exact ⟨_, cap, rfl, hn, by omega, fun hp => absurd hp (by omega)⟩
  · obtain ⟨g, cap, rfl, _, _⟩ := h.form h0
    have hm : n ≤ 9223372036854775807 := by
      rcases h.2 with ⟨_, h1⟩ | ⟨g', cap', cur, he, _, _, h1, h2, _⟩
      · omega
      · simp only [maxLen] at h2
        omega
    refine ⟨_, cap, rfl, hn, hm, fun _ => ⟨_, rfl, fun j p hj => ⟨(cs.drop (j * size)).take size, ?_, hR.2 j p hj, fun i u hu => ?_⟩⟩⟩
    · have hjl := (List.getElem?_eq_some_iff.1 hj).1
      have h1 : j * size + size ≤ cs.length := by rw [hR.1, ← Nat.succ_mul]; exact Nat.mul_le_mul_right _ hjl
      rw [List.length_take, List.length_drop]
      omega
    · refine h.cells (g := g) rfl _ u ?_
      rw [List.getElem?_take] at hu
      split at hu
      · rw [List.getElem?_drop] at hu
        exact hu
      · cases hu
/-- A field's address as_ the walk spells it. -/
theorem add_field (ad : Addr) (m j : Nat) (hj : 0 < j) : ad.add (m + j) = ⟨(ad.add m).block, (ad.add m).off + j, none⟩ := by
  unfold Addr.add
  by_cases hm : m = 0
  · subst hm
    simp [Nat.ne_of_gt hj]
  · simp [hm, Nat.add_assoc]

section
variable {P : Program} {ops : Array Oper} {rest : List Oper} {o : Oper} {a : Act} {Q : Exit → Act → World → Prop}
/-- append(v, x), x of several cells; behind 'at_builtin'; the goal's world is 'W.alloc' of the variadic's box. -/
theorem print_append_cells {w0 W : World} (base : Nat) (hgd : o.guard = none) (s x : Operand) (t e : TypeId) (z : Value) (size bytes : Nat)
    (ho : o.op = .call { callee := .builtin .append, args := #[s, x], argTypes := #[t, t] })
    (ht : P.underlying t = some (.slice e)) (hinfo : (P.info? e).map (fun i => (i.zero, i.size, i.bytes)) = some (some z, size, bytes)) (hz : z.cells.size = size) (hs0 : 0 < size) (hb0 : 0 < bytes)
    (v : Value) (n : Nat) (xs ys : List Value) (hs : a.eval s = v) (hx : a.eval x = .slice (some ⟨W.heap.size, 0, none⟩) 1 1) (hys : ys.length = size) (h1 : ∀ u ∈ ys, u.oneCell' = true)
    (HO : W.ownsRow base e size v n xs) (HB : Below base w0 W) (hbase : base ≤ W.heap.size) (hl : (n + 1) * bytes ≤ 140737488355328)
    (h : ∀ v1 w1, w1.ownsRow base e size v1 (n + 1) (xs ++ ys) → Below base w0 w1 → W.grownBy w1 v.ownBlock → (v1.ownBlock = v.ownBlock ∨ ∃ b, v1.ownBlock = some b ∧ W.heap.size ≤ b) → wpList P ops Q rest (a.put o.dst v1) w1) :
    wpList P ops Q (o :: rest) a (W.alloc (.cells ys.toArray e)) := by
  obtain ⟨i0, hi, hzz⟩ := Option.map_eq_some_iff.1 hinfo
  simp only [Prod.mk.injEq] at hzz
  obtain ⟨hz0, hz1, hz2⟩ := hzz
  have hlen : n + 1 ≤ 140737488355328 := Nat.le_trans (Nat.le_mul_of_pos_right _ hb0) hl
  refine wpList_append_own_at (W.alloc (.cells ys.toArray e)) hgd s x t ho base e i0 z size bytes ht hi hz0 hz1 hz2 hz hs0 v n xs hs (HO.alloc _) ⟨W.heap.size, 0, none⟩ 1 1 ys hx (by rw [hys]; simp)
    (by simpa using World.news_of_block (cs := ys.toArray) (t := e) (fr := (0, 0)) (heap_alloc_new W (.cells ys.toArray e))) h1 (by simp only [maxLen]; omega) hl (by simp; omega) ?_
  intro v1 w1 hown hg _ hat
  refine h v1 w1 hown ((HB.alloc hbase _).grown hg (by simp; omega) (own_base HO)) (World.grownBy.trans (World.grownBy_alloc W _ _) hg) ?_
  rcases hat with hat | hat
  · exact .inl hat
  · exact .inr ⟨_, hat, by simp⟩
end

/-! ### 12. A block of one's own that is a state: its cells, what a store leaves -/
theorem own_ne {w : World} {base : Nat} {e t : TypeId} {size n g : Nat} {v : Value} {xs : List Value} {cs : Array Value} (h : w.ownsRow base e size v n xs) (hg : w.heap[g]? = some (.cells cs t (0, 0))) (hne : e ≠ t) : some g ≠ v.ownBlock := by
  rcases h.2 with ⟨rfl, _⟩ | ⟨g', cap, cur, rfl, _, hh, _⟩
  · simp [Value.ownBlock]
  · intro he
    have : g = g' := by simpa [Value.ownBlock] using he
    subst this
    rw [hg] at hh
    injection hh with hh
    injection hh with _ ht
    exact hne ht.symm
theorem blk_set {w : World} {g : Nat} {t : TypeId} {cs : Array Value} (h : w.heap[g]? = some (.cells cs t (0, 0))) (i : Nat) (u : Value) : (w.setCell ⟨g, i, none⟩ u).heap[g]? = some (.cells (cs.setIfInBounds i u) t (0, 0)) := by
  simp [World.setCell, Array.getElem?_modify, h]
theorem blk_lt {w : World} {g : Nat} {o : Obj} (h : w.heap[g]? = some o) : g < w.heap.size := (Array.getElem?_eq_some_iff.1 h).1
theorem blk_cell {w : World} {g : Nat} {t : TypeId} {cs : Array Value} (h : w.heap[g]? = some (.cells cs t (0, 0))) (i : Nat) : w.cell? ⟨g, i, none⟩ = cs[i]? := cell_of_row w g i cs t (0, 0) h
theorem blk_frozen {w : World} {g : Nat} {t : TypeId} {cs : Array Value} (h : w.heap[g]? = some (.cells cs t (0, 0))) (i : Nat) : w.frozen? ⟨g, i, none⟩ = false := by simp [World.frozen?, h]
/-! ### 13. Two states at once: what a call on the state at block g (its row before: 'row') has turned -/
def KeepBut (w w' : World) (g : Nat) (row : Option Nat) : Prop := w.heap.size ≤ w'.heap.size ∧ ∀ i, i < w.heap.size → i ≠ g → some i ≠ row → w'.heap[i]? = w.heap[i]?
theorem KeepBut.refl (w : World) (g : Nat) (row : Option Nat) : KeepBut w w g row := ⟨Nat.le_refl _, fun _ _ _ _ => rfl⟩
theorem KeepBut.trans {w w1 w2 : World} {g : Nat} {row row1 : Option Nat} (h : KeepBut w w1 g row) (k : KeepBut w1 w2 g row1) (hr : row1 = row ∨ ∃ b, row1 = some b ∧ w.heap.size ≤ b) : KeepBut w w2 g row :=
  ⟨Nat.le_trans h.1 k.1, fun i hi hg hn => by
    refine (k.2 i (Nat.lt_of_lt_of_le hi h.1) hg ?_).trans (h.2 i hi hg hn)
    rcases hr with rfl | ⟨b, rfl, hb⟩
    · exact hn
    · intro e
      injection e with e
      omega⟩
/-- Another block, another row: they live on. -/
theorem KeepBut.blk {w w1 : World} {g g' : Nat} {row : Option Nat} {o : Obj} (h : KeepBut w w1 g row) (hb : w.heap[g']? = some o) (hg : g' ≠ g) (hr : some g' ≠ row) : w1.heap[g']? = some o := (h.2 g' (blk_lt hb) hg hr).trans hb
theorem KeepBut.own {w w1 : World} {g : Nat} {row : Option Nat} {base : Nat} {e : TypeId} {size n : Nat} {v : Value} {xs : List Value} (h : KeepBut w w1 g row) (ho : w.ownsRow base e size v n xs) (hg : v.ownBlock ≠ some g) (hr : v.ownBlock = none ∨ v.ownBlock ≠ row) : w1.ownsRow base e size v n xs := by
  obtain ⟨h1, h2⟩ := ho
  refine ⟨h1, ?_⟩
  rcases h2 with h2 | ⟨b, cap, cur, rfl, hb, hh, r⟩
  · exact .inl h2
  · refine .inr ⟨b, cap, cur, rfl, hb, h.blk hh ?_ ?_, r⟩
    · intro e
      exact hg (by rw [← e]; rfl)
    · rcases hr with hr | hr
      · simp [Value.ownBlock] at hr
      · exact hr
/-! ### 10b. From some number of rounds on -/
def Ev {α : Type} (g : Nat → Option α) (r : α) : Prop := ∃ K, ∀ k, K ≤ k → g k = some r
theorem Ev.of {α : Type} {g : Nat → Option α} {r : α} (hg : ∀ k, LeO (g k) (g (k + 1))) {k : Nat} (h : g k = some r) : Ev g r := ⟨k, fun _ hk => at_rounds hg hk h⟩
theorem Ev.now {α : Type} (r : α) : Ev (fun _ => some r) r := ⟨0, fun _ _ => rfl⟩
theorem Ev.rounds {α : Type} {g : Nat → Option α} {r : α} (h : Ev g r) : ∃ k, g k = some r := by
  obtain ⟨K, h⟩ := h
  exact ⟨K, h K (Nat.le_refl _)⟩
/-- One round of a loop. -/
theorem Ev.step {α : Type} {g f : Nat → Option α} {r : α} (h : ∀ k, g (k + 1) = f k) (k : Ev f r) : Ev g r := by
  obtain ⟨K, k⟩ := k
  refine ⟨K + 1, fun n hn => ?_⟩
  obtain ⟨m, rfl⟩ : ∃ m, n = m + 1 := ⟨n - 1, by omega⟩
  rw [h]
  exact k m (by omega)
theorem Ev.congr {α : Type} {g f : Nat → Option α} {r : α} (h : ∀ k, g k = f k) (k : Ev f r) : Ev g r := by
  obtain ⟨K, k⟩ := k
  exact ⟨K, fun n hn => (h n).trans (k n hn)⟩
/-! ### 14. append as_ one step of a region that draws its order: for 'go_region_law' (and a region walked by hand) -/
section
variable {P : Program} {ops : Array Oper} {o : Oper} {a : Act} {Q : Exit → Act → World → Prop} {K : Act → World → Prop}
end
/-! ### 15. A row's base may be lowered -/
theorem own_weaken {w : World} {base base' : Nat} {e : TypeId} {size n : Nat} {v : Value} {xs : List Value} (h : w.ownsRow base e size v n xs) (hb : base' ≤ base) : w.ownsRow base' e size v n xs := by
  obtain ⟨h1, h2⟩ := h
  refine ⟨h1, ?_⟩
  rcases h2 with h2 | ⟨g, cap, cur, rfl, hg, r⟩
  · exact .inl h2
  · exact .inr ⟨g, cap, cur, rfl, Nat.le_trans hb hg, r⟩
/-! ### 16. Parts 3 to 9 for ANY element of one cell: 'enc' (Value.int k, Value.string, Value.bool), a default 'd' -/
section
variable {α : Type} {enc : α → Value} {d : α}
def encs (enc : α → Value) (xs : List α) : List Value := xs.map enc
def rdOf (d : α) (xs : List α) (i : Int) : α := xs.getD i.toNat d
def ReadsOf (enc : α → Value) (d : α) (w : World) (A : Option Addr) (n : Nat) (xs : List α) : Prop :=
  xs.length = n ∧ n ≤ 9223372036854775807 ∧ (0 < n → ∃ ad, A = some ad ∧ ∀ j, j < n → w.cell? (ad.add j) = some (enc (xs.getD j d)))
theorem ReadsOf.below {w w1 : World} {A : Option Addr} {n : Nat} {xs : List α} (h : ReadsOf enc d w A n xs) (hb : Below w.heap.size w w1) : ReadsOf enc d w1 A n xs :=
  ⟨h.1, h.2.1, fun hn => by
    obtain ⟨ad, e, hc⟩ := h.2.2 hn
    exact ⟨ad, e, fun j hj => pw_cell_below hb (hc j hj)⟩⟩
end
section
variable {α : Type} {P : Program} {ops : Array Oper} {rest : List Oper} {o : Oper} {a : Act} {Q : Exit → Act → World → Prop}
end

/-! ### 17. Rows of one element type held at once: no two share a block -/
def NeRow (v v' : Value) : Prop := ∀ k, v.ownBlock = some k → v'.ownBlock ≠ some k
/-! ### 18. A block behind a new one; behind a draw -/
/-! ### 19. Results that lie in memory beside others -/
section
variable {P : Program}
theorem results_ct {fn : Func} {p u : Tmp} {ty : TypeId} (h : fn.results = #[.cell p ty, .tmp u]) (tmps : Array Value) (w : World) (g : Nat) (t : TypeId) (cs : Array Value) (fr : Nat × Nat) (d : TypeDesc)
    (hp : tmps.getD p undef = .pointer (some ⟨g, 0, none⟩)) (hg : w.heap[g]? = some (.cells cs t fr))
    (hu : P.underlying ty = some d) (hd : (match d with | .struct _ | .array _ _ => true | _ => false) = true) (hi : (P.info? ty).map (·.size) = some cs.size) :
    (results fn tmps).run P w = .ok (.tuple #[.agg cs, tmps.getD u undef]) w := by
  have hp' : tmps[p]?.getD undef = .pointer (some ⟨g, 0, none⟩) := by simpa using hp
  simp [results, h, hp', asAddr, run_loadVar_row w g t ty cs fr d hg hu hd hi]
end
/-! ### 20. Rows of elements of any kind: R is what an element's cells say -/
theorem own_le {w : World} {base n m c size : Nat} {e : TypeId} {A : Option Addr} {xs : List Value} (h : w.ownsRow base e size (.slice A m c) n xs) : m ≤ c := by
  rcases h.2 with ⟨he, _⟩ | ⟨g, cap, cur, he, _, _, hnc, _⟩
  · injection he with _ h2 h3
    omega
  · injection he with _ h2 h3
    omega
def OwnRow {α : Type} (R : α → List Value → Prop) (e : TypeId) (size : Nat) (w : World) (base : Nat) (v : Value) (ps : List α) : Prop :=
  ∃ inner, w.ownsRow base e size v ps.length inner ∧ Reps R size ps inner
section
variable {α : Type} {R R' : α → List Value → Prop} {e : TypeId} {size : Nat} {w w1 : World} {base : Nat} {v : Value} {ps : List α}
theorem OwnRow.imp_ (h : OwnRow R e size w base v ps) (hR : ∀ p c, R p c → R' p c) : OwnRow R' e size w base v ps := by
  obtain ⟨inner, ho, hr⟩ := h
  exact ⟨inner, ho, hr.imp_ hR⟩
theorem OwnRow.below (h : OwnRow R e size w base v ps) (hb : Below w.heap.size w w1) : OwnRow R e size w1 base v ps := by
  obtain ⟨inner, ho, hr⟩ := h
  exact ⟨inner, pw_own_below ho hb, hr⟩
theorem OwnRow.other (h : OwnRow R e size w base v ps) {row : Option Nat} (hg : w.grownBy w1 row) (hne : v.ownBlock = none ∨ v.ownBlock ≠ row) : OwnRow R e size w1 base v ps := by
  obtain ⟨inner, ho, hr⟩ := h
  exact ⟨inner, own_other ho hg hne, hr⟩
theorem OwnRow.keep (h : OwnRow R e size w base v ps) {g : Nat} {t : TypeId} {cells : Array Value} (hb : w.heap[g]? = some (.cells cells t (0, 0))) (ht : e ≠ t) (hk : KeepBut w w1 g none) : OwnRow R e size w1 base v ps := by
  obtain ⟨inner, ho, hr⟩ := h
  exact ⟨inner, hk.own ho (Ne.symm (own_ne ho hb ht)) (by cases v.ownBlock <;> simp), hr⟩
theorem OwnRow.reads (h : OwnRow R e size w base v ps) : ∃ A c, v = .slice A ps.length c ∧ ps.length ≤ c ∧ ReadsRow R size w A ps.length ps := by
  obtain ⟨inner, ho, hr⟩ := h
  obtain ⟨A, c, rfl, hrow⟩ := own_reads_row ho hr rfl
  exact ⟨A, c, rfl, own_le ho, hrow⟩
end
section
variable {P : Program} {ops : Array Oper} {rest : List Oper} {o : Oper} {a : Act} {Q : Exit → Act → World → Prop} {α : Type} {R : α → List Value → Prop}
/-- append(v, x): x's cells are cs. R is that of the world AHEAD; move it over hg ('OwnRow.imp_'). -/
theorem OwnRow.append {w0 W : World} (base : Nat) (hgd : o.guard = none) (s x : Operand) (t e : TypeId) (z : Value) (size bytes : Nat)
    (ho : o.op = .call { callee := .builtin .append, args := #[s, x], argTypes := #[t, t] })
    (ht : P.underlying t = some (.slice e)) (hinfo : (P.info? e).map (fun i => (i.zero, i.size, i.bytes)) = some (some z, size, bytes)) (hz : z.cells.size = size) (hs0 : 0 < size) (hb0 : 0 < bytes)
    (v : Value) (ps : List α) (p : α) (cs : List Value) (hs : a.eval s = v) (hx : a.eval x = .slice (some ⟨W.heap.size, 0, none⟩) 1 1) (hp : R p cs) (hcs : cs.length = size) (h1 : ∀ u ∈ cs, u.oneCell' = true)
    (HO : OwnRow R e size W base v ps) (HB : Below base w0 W) (hbase : base ≤ W.heap.size) (hl : (ps.length + 1) * bytes ≤ 140737488355328)
    (h : ∀ v1 w1, OwnRow R e size w1 base v1 (ps ++ [p]) → Below base w0 w1 → W.grownBy w1 v.ownBlock → (v1.ownBlock = v.ownBlock ∨ ∃ b, v1.ownBlock = some b ∧ W.heap.size ≤ b) → wpList P ops Q rest (a.put o.dst v1) w1) :
    wpList P ops Q (o :: rest) a (W.alloc (.cells cs.toArray e)) := by
  obtain ⟨inner, hown, hr⟩ := HO
  refine print_append_cells base hgd s x t e z size bytes ho ht hinfo hz hs0 hb0 v ps.length inner cs hs hx hcs h1 hown HB hbase hl ?_
  intro v1 w1 hown1 hb1 hg1 hat1
  exact h v1 w1 ⟨inner ++ cs, by rw [List.length_append, List.length_singleton]; exact hown1, hr.snoc hp hcs⟩ hb1 hg1 hat1
end
section
variable {P : Program} {ops : Array Oper} {o : Oper} {a : Act} {Q : Exit → Act → World → Prop} {K : Act → World → Prop} {α : Type} {R : α → List Value → Prop}
end
/-! ### 21. Cuts of a slice that came in, lengths spelled as_ the lists' -/
section
variable {α : Type} {P : Program}
end

/-! ### 22. append([]byte, s...), s a string; behind 'at_builtin'. (No word on where the new row lies: two rows of bytes at once don't go by it.) -/
section
variable {P : Program} {ops : Array Oper} {rest : List Oper} {o : Oper} {a : Act} {Q : Exit → Act → World → Prop}
end
/-! ### 23. KINDS: what a value's cells say, read (K) and made (M), kind by kind; every mover proved once -/
/-- ok: which blocks the rows inside may be ('not the row that is being written'). -/
structure Kd (α : Type) where
  sz : Nat
  E : List Nat
  K : World → α → List Value → Prop
  M : World → Nat → (Nat → Prop) → α → List Value → Prop
  K_len : ∀ {w x cs}, K w x cs → cs.length = sz
  K_one : ∀ {w x cs}, K w x cs → ∀ u ∈ cs, u.oneCell' = true
  K_below : ∀ {w w1 : World} {x cs}, Below w.heap.size w w1 → K w x cs → K w1 x cs
  K_of_M : ∀ {w base ok x cs}, M w base ok x cs → K w x cs
  M_mono : ∀ {w base ok ok' x cs}, (∀ k, ok k → ok' k) → M w base ok x cs → M w base ok' x cs
  M_bound : ∀ {w : World} {base ok x cs}, M w base ok x cs → M w base (fun k => ok k ∧ base ≤ k ∧ k < w.heap.size ∧ ∃ q, q ∈ E ∧ ∃ cells, w.heap[k]? = some (.cells cells q (0, 0))) x cs
  M_move : ∀ {w w1 : World} {base ok x cs}, (∀ k, ok k → w1.heap[k]? = w.heap[k]?) → M w base ok x cs → M w1 base ok x cs
  M_lower : ∀ {w base base' ok x cs}, base' ≤ base → M w base ok x cs → M w base' ok x cs

theorem own_move {w w1 : World} {base : Nat} {e : TypeId} {size n : Nat} {v : Value} {xs : List Value} (h : w.ownsRow base e size v n xs) (hm : ∀ k, v.ownBlock = some k → w1.heap[k]? = w.heap[k]?) : w1.ownsRow base e size v n xs := by
  obtain ⟨h1, h2⟩ := h
  refine ⟨h1, ?_⟩
  rcases h2 with h2 | ⟨g, cap, cur, rfl, hg, hh, r⟩
  · exact .inl h2
  · exact .inr ⟨g, cap, cur, rfl, hg, (hm g (by simp [Value.ownBlock])).trans hh, r⟩
theorem own_typed {w : World} {base : Nat} {e : TypeId} {size n : Nat} {v : Value} {xs : List Value} (h : w.ownsRow base e size v n xs) (k : Nat) (hk : v.ownBlock = some k) : ∃ cells, w.heap[k]? = some (.cells cells e (0, 0)) := by
  rcases h.2 with ⟨rfl, _⟩ | ⟨g, cap, cur, rfl, hg, hh, r⟩
  · simp [Value.ownBlock] at hk
  · have : g = k := by simpa [Value.ownBlock] using hk
    subst this
    exact ⟨cur, hh⟩

namespace Kd
/-- A row of elements that is read. -/
def C {α : Type} (d : Kd α) (w : World) (A : Option Addr) (n : Nat) (xs : List α) : Prop := ReadsRow (d.K w) d.sz w A n xs
/-- A row of elements (type e) of the call's own; the elements' rows are not this one. -/
def R {α : Type} (d : Kd α) (e : Nat) (w : World) (base : Nat) (ok : Nat → Prop) (v : Value) (xs : List α) : Prop :=
  (∀ k, v.ownBlock = some k → ok k) ∧ OwnRow (d.M w base (fun k => ok k ∧ some k ≠ v.ownBlock)) e d.sz w base v xs
section
variable {α : Type} {d : Kd α} {e : Nat} {w w1 : World} {base : Nat} {ok ok' : Nat → Prop} {v : Value} {xs : List α}
theorem C_below {A : Option Addr} {n : Nat} (h : d.C w A n xs) (hb : Below w.heap.size w w1) : d.C w1 A n xs := ReadsRow.imp_ h hb (fun _ _ hp => d.K_below hb hp)
theorem R_mono (h : d.R e w base ok v xs) (hok : ∀ k, ok k → ok' k) : d.R e w base ok' v xs := ⟨fun k hk => hok k (h.1 k hk), h.2.imp_ (fun _ _ hp => d.M_mono (fun k hk => ⟨hok k hk.1, hk.2⟩) hp)⟩
theorem R_bound (h : d.R e w base ok v xs) : d.R e w base (fun k => ok k ∧ base ≤ k ∧ k < w.heap.size ∧ ∃ q, q ∈ e :: d.E ∧ ∃ cells, w.heap[k]? = some (.cells cells q (0, 0))) v xs := by
  obtain ⟨h0, inner, ho, hr⟩ := h
  refine ⟨fun k hk => ?_, inner, ho, hr.imp_ (fun _ _ hp => d.M_mono (fun k hk => ?_) (d.M_bound hp))⟩
  · obtain ⟨cells, hc⟩ := own_typed ho k hk
    exact ⟨h0 k hk, own_base ho k hk, own_lt ho k hk, e, List.mem_cons_self, cells, hc⟩
  · obtain ⟨⟨h1, h2⟩, h3, h4, q, hq, hc⟩ := hk
    exact ⟨⟨h1, h3, h4, q, List.mem_cons_of_mem _ hq, hc⟩, h2⟩
theorem R_move (h : d.R e w base ok v xs) (hm : ∀ k, ok k → w1.heap[k]? = w.heap[k]?) : d.R e w1 base ok v xs := by
  obtain ⟨h0, inner, ho, hr⟩ := h
  exact ⟨h0, inner, own_move ho (fun k hk => hm k (h0 k hk)), hr.imp_ (fun _ _ hp => d.M_move (fun k hk => hm k hk.1) hp)⟩
theorem R_lower {base' : Nat} (h : d.R e w base ok v xs) (hb : base' ≤ base) : d.R e w base' ok v xs := by
  obtain ⟨h0, inner, ho, hr⟩ := h
  exact ⟨h0, inner, own_weaken ho hb, hr.imp_ (fun _ _ hp => d.M_lower hb hp)⟩
theorem R_reads (h : d.R e w base ok v xs) : ∃ A c, v = .slice A xs.length c ∧ xs.length ≤ c ∧ d.C w A xs.length xs := by
  obtain ⟨A, c, he, hl, hr⟩ := OwnRow.reads h.2
  exact ⟨A, c, he, hl, hr.imp_ (Below.refl _ _) (fun _ _ hp => d.K_of_M hp)⟩
end

/-! #### the kinds -/
def scalar {α : Type} (enc : α → Value) (h1 : ∀ x, (enc x).oneCell' = true) : Kd α where
  sz := 1
  E := []
  K := fun _ x cs => cs = [enc x]
  M := fun _ _ _ x cs => cs = [enc x]
  K_len := fun h => by rw [h]; rfl
  K_one := fun h u hu => by
    rw [h] at hu
    rw [List.mem_singleton.1 hu]
    exact h1 _
  K_below := fun _ h => h
  K_of_M := fun h => h
  M_mono := fun _ h => h
  M_bound := fun h => h
  M_move := fun _ h => h
  M_lower := fun _ h => h
def int (k : IntKind) : Kd Int := scalar (Value.int k) (fun _ => rfl)
def bool : Kd Bool := scalar Value.bool (fun _ => rfl)
def string : Kd ByteArray := scalar Value.string (fun _ => rfl)
def slice {α : Type} (e : Nat) (d : Kd α) : Kd (List α) where
  sz := 1
  E := e :: d.E
  K := fun w xs cs => ∃ A c, cs = [.slice A xs.length c] ∧ xs.length ≤ c ∧ d.C w A xs.length xs
  M := fun w base ok xs cs => ∃ v, cs = [v] ∧ d.R e w base ok v xs
  K_len := by
    rintro w x cs ⟨A, c, rfl, _⟩
    rfl
  K_one := by
    rintro w x cs ⟨A, c, rfl, _⟩ u hu
    rw [List.mem_singleton.1 hu]
    rfl
  K_below := by
    rintro w w1 x cs hb ⟨A, c, rfl, hl, hr⟩
    exact ⟨A, c, rfl, hl, C_below hr hb⟩
  K_of_M := by
    rintro w base ok x cs ⟨v, rfl, h⟩
    obtain ⟨A, c, rfl, hl, hr⟩ := R_reads h
    exact ⟨A, c, rfl, hl, hr⟩
  M_mono := by
    rintro w base ok ok' x cs hok ⟨v, rfl, h⟩
    exact ⟨v, rfl, R_mono h hok⟩
  M_bound := by
    rintro w base ok x cs ⟨v, rfl, h⟩
    exact ⟨v, rfl, R_bound h⟩
  M_move := by
    rintro w w1 base ok x cs hm ⟨v, rfl, h⟩
    exact ⟨v, rfl, R_move h hm⟩
  M_lower := by
    rintro w base base' ok x cs hb ⟨v, rfl, h⟩
    exact ⟨v, rfl, R_lower h hb⟩
/-- Two in line. -/
def pair {α β : Type} (a : Kd α) (b : Kd β) : Kd (α × β) where
  sz := a.sz + b.sz
  E := a.E ++ b.E
  K := fun w x cs => ∃ c0 c1, cs = c0 ++ c1 ∧ a.K w x.1 c0 ∧ b.K w x.2 c1
  M := fun w base ok x cs => ∃ c0 c1, cs = c0 ++ c1 ∧ a.M w base ok x.1 c0 ∧ b.M w base ok x.2 c1
  K_len := by
    rintro w x cs ⟨c0, c1, rfl, h0, h1⟩
    rw [List.length_append, a.K_len h0, b.K_len h1]
  K_one := by
    rintro w x cs ⟨c0, c1, rfl, h0, h1⟩ u hu
    rcases List.mem_append.1 hu with hu | hu
    · exact a.K_one h0 u hu
    · exact b.K_one h1 u hu
  K_below := by
    rintro w w1 x cs hb ⟨c0, c1, rfl, h0, h1⟩
    exact ⟨c0, c1, rfl, a.K_below hb h0, b.K_below hb h1⟩
  K_of_M := by
    rintro w base ok x cs ⟨c0, c1, rfl, h0, h1⟩
    exact ⟨c0, c1, rfl, a.K_of_M h0, b.K_of_M h1⟩
  M_mono := by
    rintro w base ok ok' x cs hok ⟨c0, c1, rfl, h0, h1⟩
    exact ⟨c0, c1, rfl, a.M_mono hok h0, b.M_mono hok h1⟩
  M_bound := by
    rintro w base ok x cs ⟨c0, c1, rfl, h0, h1⟩
    refine ⟨c0, c1, rfl, a.M_mono ?_ (a.M_bound h0), b.M_mono ?_ (b.M_bound h1)⟩
    · rintro k ⟨h2, h3, h4, q, hq, hc⟩
      exact ⟨h2, h3, h4, q, List.mem_append_left _ hq, hc⟩
    · rintro k ⟨h2, h3, h4, q, hq, hc⟩
      exact ⟨h2, h3, h4, q, List.mem_append_right _ hq, hc⟩
  M_move := by
    rintro w w1 base ok x cs hm ⟨c0, c1, rfl, h0, h1⟩
    exact ⟨c0, c1, rfl, a.M_move hm h0, b.M_move hm h1⟩
  M_lower := by
    rintro w base base' ok x cs hb ⟨c0, c1, rfl, h0, h1⟩
    exact ⟨c0, c1, rfl, a.M_lower hb h0, b.M_lower hb h1⟩
/-- A Lean structure by its fields. -/
def iso {α β : Type} (d : Kd α) (f : β → α) : Kd β where
  sz := d.sz
  E := d.E
  K := fun w x cs => d.K w (f x) cs
  M := fun w base ok x cs => d.M w base ok (f x) cs
  K_len := d.K_len
  K_one := d.K_one
  K_below := d.K_below
  K_of_M := d.K_of_M
  M_mono := d.M_mono
  M_bound := d.M_bound
  M_move := d.M_move
  M_lower := d.M_lower
/-- Nothing is of this kind: where the nesting's depth is used up. -/
def bot {α : Type} (sz : Nat) (E : List Nat) : Kd α where
  sz := sz
  E := E
  K := fun _ _ _ => False
  M := fun _ _ _ _ _ => False
  K_len := fun h => h.elim
  K_one := fun h => h.elim
  K_below := fun _ h => h
  K_of_M := fun h => h
  M_mono := fun _ h => h
  M_bound := fun h => h
  M_move := fun _ h => h
  M_lower := fun _ h => h
/-- A type nested in itself: nested at most n deep .. -/
def upto {α : Type} (F : Kd α → Kd α) (sz : Nat) (E : List Nat) : Nat → Kd α
  | 0 => bot sz E
  | n + 1 => F (upto F sz E n)
/-- .. for some n. -/
def fix {α : Type} (F : Kd α → Kd α) (sz : Nat) (E : List Nat) (hs : ∀ n, (upto F sz E n).sz = sz) (hE : ∀ n q, q ∈ (upto F sz E n).E → q ∈ E) : Kd α where
  sz := sz
  E := E
  K := fun w x cs => ∃ n, (upto F sz E n).K w x cs
  M := fun w base ok x cs => ∃ n, (upto F sz E n).M w base ok x cs
  K_len := by
    rintro w x cs ⟨n, h⟩
    rw [(upto F sz E n).K_len h, hs n]
  K_one := by
    rintro w x cs ⟨n, h⟩
    exact (upto F sz E n).K_one h
  K_below := by
    rintro w w1 x cs hb ⟨n, h⟩
    exact ⟨n, (upto F sz E n).K_below hb h⟩
  K_of_M := by
    rintro w base ok x cs ⟨n, h⟩
    exact ⟨n, (upto F sz E n).K_of_M h⟩
  M_mono := by
    rintro w base ok ok' x cs hok ⟨n, h⟩
    exact ⟨n, (upto F sz E n).M_mono hok h⟩
  M_bound := by
    rintro w base ok x cs ⟨n, h⟩
    refine ⟨n, (upto F sz E n).M_mono ?_ ((upto F sz E n).M_bound h)⟩
    rintro k ⟨h2, h3, h4, q, hq, hc⟩
    exact ⟨h2, h3, h4, q, hE n q hq, hc⟩
  M_move := by
    rintro w w1 base ok x cs hm ⟨n, h⟩
    exact ⟨n, (upto F sz E n).M_move hm h⟩
  M_lower := by
    rintro w base base' ok x cs hb ⟨n, h⟩
    exact ⟨n, (upto F sz E n).M_lower hb h⟩

/-! #### an element of a row that is read; an element appended -/
theorem C_get {α : Type} {d : Kd α} {w : World} {A : Option Addr} {n : Nat} {xs : List α} (h : d.C w A n xs) (z : α) (i : Int) (h0 : 0 ≤ i) (h1 : i < n) :
    ∃ ad c, A = some ad ∧ c.length = d.sz ∧ d.K w (xs.getD i.toNat z) c ∧ ∀ j u, c[j]? = some u → w.cell? (ad.add (i.toNat * d.sz + j)) = some u := ReadsRow.get_ h z i h0 h1
section
variable {P : Program} {ops : Array Oper} {rest : List Oper} {o : Oper} {a : Act} {Q : Exit → Act → World → Prop} {α : Type}
end
section
variable {P : Program} {ops : Array Oper} {o : Oper} {a : Act} {Q : Exit → Act → World → Prop} {Kc : Act → World → Prop} {α : Type}
end
end Kd
/-! ### 24. Kinds nested in themselves -/
namespace Kd
/-- F says the more, the more its argument says. -/
structure Mono {α β : Type} (F : Kd α → Kd β) : Prop where
  sz : ∀ d d' : Kd α, d.sz = d'.sz → (F d).sz = (F d').sz
  K : ∀ d d' : Kd α, d.sz = d'.sz → (∀ w x cs, d.K w x cs → d'.K w x cs) → ∀ w x cs, (F d).K w x cs → (F d').K w x cs
  M : ∀ d d' : Kd α, d.sz = d'.sz → (∀ w base ok x cs, d.M w base ok x cs → d'.M w base ok x cs) → ∀ w base ok x cs, (F d).M w base ok x cs → (F d').M w base ok x cs
/-- The element types inside stay among E. -/
def Sub {α β : Type} (F : Kd α → Kd β) (E : List Nat) : Prop := ∀ d : Kd α, (∀ q, q ∈ d.E → q ∈ E) → ∀ q, q ∈ (F d).E → q ∈ E
section
variable {α : Type} {F : Kd α → Kd α} {sz : Nat} {E : List Nat} {hs : ∀ n, (upto F sz E n).sz = sz} {hE : ∀ n q, q ∈ (upto F sz E n).E → q ∈ E}
end
end Kd
/-! ### 25. What is held while another row is written: 'ok' says that its rows are none of that row's block -/
namespace Kd
end Kd
/-! ### 26. Words for a printer that takes every slice by its kind -/
namespace Kd
section
variable {α β : Type} {d : Kd α} {d' : Kd β} {e e' : Nat} {w w1 W : World} {base b b' : Nat} {ok ok' okv oku : Nat → Prop} {v u : Value} {xs : List α} {ys : List β}
theorem C_alloc {A : Option Addr} {n : Nat} (h : d.C w A n xs) (o : Obj) : d.C (w.alloc o) A n xs := C_below h (below_alloc (Below.refl _ _) o)
end
/-! #### scalars -/
section
variable {w W : World} {A : Option Addr} {n : Nat}
variable {α : Type} {enc : α → Value} {h1 : ∀ x, (enc x).oneCell' = true} {e base g cap : Nat} {ok : Nat → Prop} {xs : List α}
end

/-! #### events: a letter for what make and a literal leave -/
section
variable {P : Program} {ops : Array Oper} {rest : List Oper} {o : Oper} {a : Act} {Q : Exit → Act → World → Prop}
variable {α : Type}
end
end Kd
/-! ### 27. Cuts of a row of one's own: 'xs = xs[:n]' stays a row (R_take); 'xs = xs[k:]' is a row that begins inside its block (Kd.Q), append goes on it too -/
theorem own_take {w : World} {base n m c size : Nat} {e : TypeId} {A : Option Addr} {xs : List Value} (h : w.ownsRow base e size (.slice A n c) n xs) (hm : m ≤ n) : w.ownsRow base e size (.slice A m c) m (xs.take (m * size)) := by
  obtain ⟨h1, h2⟩ := h
  refine ⟨by rw [List.length_take, h1]; exact Nat.min_eq_left (Nat.mul_le_mul_right _ hm), ?_⟩
  rcases h2 with ⟨he, h0⟩ | ⟨g, cap, cur, he, hb, hh, hnc, hcm, hcs, ht⟩
  · injection he with ha _ hc
    subst ha; subst hc
    exact .inl ⟨by rw [show m = 0 by omega], by omega⟩
  · injection he with ha _ hc
    subst ha; subst hc
    refine .inr ⟨g, c, cur, rfl, hb, hh, by omega, hcm, hcs, ?_⟩
    rw [← ht, List.take_take, Nat.min_eq_left (Nat.mul_le_mul_right _ hm)]
section
variable {P : Program}
end
/-- A row of one's own that may begin inside its block. -/
def QRow (w : World) (base : Nat) (e : TypeId) (size : Nat) (v : Value) (n : Nat) (xs : List Value) : Prop :=
  xs.length = n * size ∧
  ((n = 0 ∧ ∃ A, v = .slice A 0 0 ∧ ∀ a, A = some a → base ≤ a.block ∧ ∃ cur, w.heap[a.block]? = some (.cells cur e (0, 0))) ∨
   ∃ g off cap cur, v = .slice (some ⟨g, off * size, none⟩) n cap ∧ base ≤ g ∧ w.heap[g]? = some (.cells cur e (0, 0)) ∧ n ≤ cap ∧ off + cap ≤ maxLen ∧ cur.size = (off + cap) * size ∧ (cur.toList.drop (off * size)).take (n * size) = xs)
section
variable {w w1 : World} {base n size : Nat} {e : TypeId} {v : Value} {xs : List Value}
end
section
variable {P : Program}
end
/-! ### 28. The kinds' words for cuts: R_take; Q (a row that may begin inside its block) with all of R's movers -/
namespace Kd
theorem reps_take {α : Type} {R : α → List Value → Prop} {size m : Nat} {ps : List α} {cs : List Value} (h : Reps R size ps cs) (hm : m ≤ ps.length) : Reps R size (ps.take m) (cs.take (m * size)) := by
  refine ⟨by rw [List.length_take, List.length_take, h.1, Nat.min_eq_left hm, Nat.min_eq_left (Nat.mul_le_mul_right _ hm)], fun j p hj => ?_⟩
  rw [List.getElem?_take] at hj
  split at hj
  · rename_i hjm
    have := h.2 j p hj
    have hle : j * size + size ≤ m * size := by rw [← Nat.succ_mul]; exact Nat.mul_le_mul_right _ hjm
    rw [List.drop_take, List.take_take, Nat.min_eq_left (by omega)]
    exact this
  · cases hj
theorem R_take {α : Type} {d : Kd α} {e m n c : Nat} {w : World} {base : Nat} {ok : Nat → Prop} {A : Option Addr} {xs : List α} (h : d.R e w base ok (.slice A n c) xs) (hm : m ≤ xs.length) : d.R e w base ok (.slice A m c) (xs.take m) := by
  obtain ⟨h0, inner, ho, hr⟩ := h
  have hn : n = xs.length := by
    obtain ⟨A', c', he⟩ := own_slice ho
    injection he
  subst hn
  have hb : ∀ x y : Nat, (Value.slice A x c).ownBlock = (Value.slice A y c).ownBlock := by
    intro x y
    cases A <;> rfl
  refine ⟨fun k hk => h0 k (by rw [hb _ m]; exact hk), inner.take (m * d.sz), ?_, ?_⟩
  · rw [List.length_take, Nat.min_eq_left hm]
    exact own_take ho hm
  · rw [hb m xs.length]
    exact reps_take hr hm
def Q {α : Type} (d : Kd α) (e : Nat) (w : World) (base : Nat) (ok : Nat → Prop) (v : Value) (xs : List α) : Prop :=
  (∀ k, v.ownBlock = some k → ok k) ∧ ∃ inner, QRow w base e d.sz v xs.length inner ∧ Reps (d.M w base (fun k => ok k ∧ some k ≠ v.ownBlock)) d.sz xs inner
section
variable {α : Type} {d : Kd α} {e : Nat} {w w1 W : World} {base : Nat} {ok ok' : Nat → Prop} {v : Value} {xs : List α}
end
section
variable {P : Program} {ops : Array Oper} {rest : List Oper} {o : Oper} {a : Act} {Q' : Exit → Act → World → Prop} {Kc : Act → World → Prop} {α : Type}
end
end Kd
/-! ### 29. Movers that ask of another row no more than they need: for R and for Q -/
namespace Kd
section
variable {α : Type} {d : Kd α} {e e' : Nat} {w w1 W : World} {base : Nat} {ok : Nat → Prop} {u v : Value} {xs : List α}
end
end Kd
/-! ### 30. Elements written: x[i] = T{..}, x[i].f = v, swaps, in a row of elements of any kind -/
namespace Kd
section
variable {α : Type} {d : Kd α} {e base g n cap : Nat} {ok okp : Nat → Prop} {W : World} {xs : List α}
end
end Kd
/-! ### 31. What came in, put into what is made: 'fixed d w0' (read in w0, whatever happens since), 'or_ a b', 'mix' (a slice that came in, or one that is made) -/
namespace Kd
def fixed {α : Type} (d : Kd α) (w0 : World) : Kd α where
  sz := d.sz
  E := []
  K := fun _ x cs => d.K w0 x cs
  M := fun _ _ _ x cs => d.K w0 x cs
  K_len := d.K_len
  K_one := d.K_one
  K_below := fun _ h => h
  K_of_M := fun h => h
  M_mono := fun _ h => h
  M_bound := fun h => h
  M_move := fun _ h => h
  M_lower := fun _ h => h
def or_ {α : Type} (a b : Kd α) (h : b.sz = a.sz) : Kd α where
  sz := a.sz
  E := a.E ++ b.E
  K := fun w x cs => a.K w x cs ∨ b.K w x cs
  M := fun w base ok x cs => a.M w base ok x cs ∨ b.M w base ok x cs
  K_len := fun hk => hk.elim a.K_len (fun hk => (b.K_len hk).trans h)
  K_one := fun hk => hk.elim a.K_one b.K_one
  K_below := fun hb hk => hk.imp (a.K_below hb) (b.K_below hb)
  K_of_M := fun hk => hk.imp a.K_of_M b.K_of_M
  M_mono := fun hok hk => hk.imp (a.M_mono hok) (b.M_mono hok)
  M_bound := fun hk => hk.imp
    (fun hk => a.M_mono (fun _ ⟨h1, h2, h3, q, hq, hc⟩ => ⟨h1, h2, h3, q, List.mem_append_left _ hq, hc⟩) (a.M_bound hk))
    (fun hk => b.M_mono (fun _ ⟨h1, h2, h3, q, hq, hc⟩ => ⟨h1, h2, h3, q, List.mem_append_right _ hq, hc⟩) (b.M_bound hk))
  M_move := fun hm hk => hk.imp (a.M_move hm) (b.M_move hm)
  M_lower := fun hb hk => hk.imp (a.M_lower hb) (b.M_lower hb)
/-- A slice whose elements are read by d when it came in, and are of kind dm when it is made. -/
def mix {α : Type} (e : Nat) (d dm : Kd α) (w0 : World) : Kd (List α) := or_ (fixed (slice e d) w0) (slice e dm) rfl
section
variable {α : Type} {F : Kd α → Kd α} {sz : Nat} {E : List Nat} {hs : ∀ n, (upto F sz E n).sz = sz} {hE : ∀ n q, q ∈ (upto F sz E n).E → q ∈ E}
end
end Kd
/-! ### 32. A whole row appended, of elements of any kind; copy onto a row of scalars of one's own -/
namespace Kd
section
variable {P : Program} {ops : Array Oper} {rest : List Oper} {o : Oper} {a : Act} {Q : Exit → Act → World → Prop} {α : Type}
end
end Kd
/-! ### 33. A store into a row of one's own, as_ an event: no go_simp -/
namespace Kd
section
variable {P : Program} {ops : Array Oper} {rest : List Oper} {o : Oper} {a : Act} {Q : Exit → Act → World → Prop} {α : Type}
end
end Kd
/-! ### 34. Cuts that are only read, of any row -/
namespace Kd
section
variable {α : Type} {k : Kd α} {w : World} {A : Option Addr} {xs : List α} {m c : Nat}
end
end Kd
section
variable {P : Program}
end
/-! ### 35. string(b), b read (a cut too) -/
/-! ### 6. What the printer adds -/
theorem ReadsInt.nil (W : World) (k : IntKind) : ReadsInt W k none ([] : List Int).length [] := ⟨rfl, by simp, fun h => absurd h (Nat.lt_irrefl 0)⟩
theorem ReadsInt.drewN {W : World} {k : IntKind} {A : Option Addr} {n : Nat} {xs : List Int} (h : ReadsInt W k A n xs) (m : Nat) : ReadsInt (W.drewN m) k A n xs := h
theorem keep_cell {w W : World} {g : Nat} (h : KeepBut w W g none) {a : Addr} {v : Value} (hc : w.cell? a = some v) (hne : a.block ≠ g) : W.cell? a = some v := by
  have := h.2 a.block (World.block_lt_of_cell? w a hc) hne (by simp)
  simpa [World.cell?, this] using hc
theorem add_block (a : Addr) (i : Nat) : (a.add i).block = a.block := by unfold Addr.add; split <;> rfl
theorem ReadsOf.nil {α : Type} (enc : α → Value) (d : α) (W : World) : ReadsOf enc d W none ([] : List α).length [] := ⟨rfl, by simp, fun h => absurd h (Nat.lt_irrefl 0)⟩
theorem ReadsOf.drewN {α : Type} {enc : α → Value} {d : α} {W : World} {A : Option Addr} {n : Nat} {xs : List α} (h : ReadsOf enc d W A n xs) (m : Nat) : ReadsOf enc d (W.drewN m) A n xs := h
theorem ReadsInt.keep {w W : World} {k : IntKind} {A : Option Addr} {n g : Nat} {xs : List Int} (h : ReadsInt w k A n xs) (hk : KeepBut w W g none) (hf : ∀ ad, A = some ad → 0 < n → ad.block ≠ g) : ReadsInt W k A n xs :=
  ⟨h.1, h.2.1, fun hn => by
    obtain ⟨ad, e, hc⟩ := h.2.2 hn
    exact ⟨ad, e, fun j hj => keep_cell hk (hc j hj) (by rw [add_block]; exact hf ad e hn)⟩⟩
theorem ReadsOf.keep {α : Type} {enc : α → Value} {d : α} {w W : World} {A : Option Addr} {n g : Nat} {xs : List α} (h : ReadsOf enc d w A n xs) (hk : KeepBut w W g none) (hf : ∀ ad, A = some ad → 0 < n → ad.block ≠ g) : ReadsOf enc d W A n xs :=
  ⟨h.1, h.2.1, fun hn => by
    obtain ⟨ad, e, hc⟩ := h.2.2 hn
    exact ⟨ad, e, fun j hj => keep_cell hk (hc j hj) (by rw [add_block]; exact hf ad e hn)⟩⟩
theorem own_cap {W : World} {base n c : Nat} {e : TypeId} {size : Nat} {A : Option Addr} {xs : List Value} (h : W.ownsRow base e size (.slice A n c) n xs) : n ≤ c := by
  rcases h.2 with ⟨h1, h2⟩ | ⟨g, cap, cur, h1, _, _, h2, _⟩
  · injection h1 with _ h3 h4
    omega
  · injection h1 with _ _ h4
    omega
namespace Kd
section
variable {α β : Type} {d : Kd α} {d' : Kd β} {e e' base base' n : Nat} {ok ok' : Nat → Prop} {w W w1 W1 : World} {v u : Value} {xs : List α} {ys : List β} {A : Option Addr} {c : Nat}
end
section
variable {α : Type} {enc : α → Value} {h1 : ∀ x, (enc x).oneCell' = true} {w W : World} {A : Option Addr} {n g : Nat} {xs : List α}
end
end Kd
namespace Kd
section
variable {α : Type} {d : Kd α} {e base g : Nat} {ok : Nat → Prop} {w w1 : World} {v : Value} {xs : List α} {o : Obj}
end
end Kd
section
variable {P : Program} {ops : Array Oper} {rest : List Oper} {o : Oper} {a : Act} {Q : Exit → Act → World → Prop}
end
namespace Kd
section
variable {α : Type} {enc : α → Value} {h1 : ∀ x, (enc x).oneCell' = true} {e base g n cap : Nat} {ok : Nat → Prop} {W : World} {xs : List α}
end
end Kd
section
variable {P : Program} {ops : Array Oper} {rest : List Oper} {o : Oper} {a : Act} {Q : Exit → Act → World → Prop}
end
namespace Kd
section
variable {α : Type} {enc : α → Value} {h1 : ∀ x, (enc x).oneCell' = true} {e base g n cap : Nat} {ok : Nat → Prop} {W : World} {xs : List α}
end
end Kd
section
variable {P : Program} {ops : Array Oper} {rest : List Oper} {o : Oper} {a : Act} {Q : Exit → Act → World → Prop} {W : World}
end
/-! ### 36. Events as_ one step of a region that draws (for one_, two_, three_) -/
section
variable {P : Program} {ops : Array Oper} {o : Oper} {a : Act} {Q : Exit → Act → World → Prop} {Kc : Act → World → Prop}
namespace Kd
variable {α : Type}
end Kd
end
/-! ### 37. Results of any shape -/
inductive Vals (P : Program) (tmps : Array Value) (w : World) : List ResultVar → List Value → Prop where
  | nil : Vals P tmps w [] []
  | tmp {u : Tmp} {rs : List ResultVar} {vs : List Value} (h : Vals P tmps w rs vs) : Vals P tmps w (.tmp u :: rs) (tmps.getD u undef :: vs)
  | cell {p : Tmp} {ty : TypeId} {rs : List ResultVar} {vs : List Value} (g : Nat) (t : TypeId) (cs : Array Value) (fr : Nat × Nat) (d : TypeDesc)
      (hp : tmps.getD p undef = .pointer (some ⟨g, 0, none⟩)) (hg : w.heap[g]? = some (.cells cs t fr))
      (hu : P.underlying ty = some d) (hd : (match d with | .struct _ | .array _ _ => true | _ => false) = true) (hi : (P.info? ty).map (·.size) = some cs.size)
      (h : Vals P tmps w rs vs) : Vals P tmps w (.cell p ty :: rs) (.agg cs :: vs)
section
variable {P : Program} {tmps : Array Value} {w : World}
end
/-! ### 38. 'out = append(out[:k], out[k+1:]...)': an element taken out of a row of one's own, in place -/
namespace Kd
section
variable {P : Program} {α : Type}
end
section
variable {P : Program} {ops : Array Oper} {rest : List Oper} {o : Oper} {a : Act} {Q : Exit → Act → World → Prop} {Kc : Act → World → Prop} {α : Type}
end
end Kd

end Go.Proofs.YtccllgpaafgjaaaW.PrintWords
/- The values of the program as Lean data (slots, volumes, operations), how their cells read in memory, and small lemmas for the walks. -/






























namespace Go.Proofs.Ytccllgpaafgjaaa
open Go.RowKit Go.Proofs.YtccllgpaafgjaaaW.PrintWords
set_option linter.unusedVariables false
set_option linter.unusedSimpArgs false

/-! ### data -/
structure Slot where
  text : ByteArray
  uses : Int
structure Vol where
  name : ByteArray
  blocks : List Int
structure Pool where
  slots : List Slot
  vols : List Vol
structure Op where
  kind : Int
  name : ByteArray
  dest : ByteArray
  n : Int
  text : ByteArray
def Slot.z : Slot := ⟨⟨#[]⟩, 0⟩
def Vol.z : Vol := ⟨⟨#[]⟩, []⟩
def Op.z : Op := ⟨0, ⟨#[]⟩, ⟨#[]⟩, 0, ⟨#[]⟩⟩
abbrev kInt : Kd Int := Kd.int .i64
def kSlot : Kd Slot := Kd.iso (Kd.pair Kd.string kInt) (fun x : Slot => (x.text, x.uses))
def kVol : Kd Vol := Kd.iso (Kd.pair Kd.string (Kd.slice 3 kInt)) (fun x : Vol => (x.name, x.blocks))
theorem getQ {α} {xs : List α} {k : Nat} (h : k < xs.length) : ∃ x, xs[k]? = some x := ⟨_, List.getElem?_eq_getElem h⟩
theorem ltQ {α} {xs : List α} {k : Nat} {x : α} (h : xs[k]? = some x) : k < xs.length := (List.getElem?_eq_some_iff.1 h).1
/-- A call that hands back v and leaves all that lay in memory. -/
abbrev Bel (w w' : World) : Prop := Below w.heap.size w w'
def Ret (v : Value) (w : World) (e : Ending) (w' : World) : Prop := e = .returned v ∧ Bel w w'
/-- .. and makes nothing. -/
def Same (v : Value) (w : World) (e : Ending) (w' : World) : Prop := e = .returned v ∧ w = w'
theorem Bel.tr {a b c : World} (h : Bel a b) (k : Bel b c) : Bel a c := h.trans (k.mono h.size)
theorem bel_alloc {a b : World} (h : Bel a b) (o : Obj) : Bel a (b.alloc o) := h.alloc h.size o
theorem ret_int {k : IntKind} {a b : Int} (h : a = b) : Ending.returned (.int k a) = .returned (.int k b) := by rw [h]
theorem ret_bool {a b : Bool} (h : a = b) : Ending.returned (.bool a) = .returned (.bool b) := by rw [h]
theorem int_eq {k : IntKind} {a b : Int} (h : a = b) : Value.int k a = .int k b := by rw [h]
/-- A block of one's own, told aside; kept over a call. -/
def Blk (w : World) (b : Nat) (cs : Array Value) (t : TypeId) : Prop := w.heap[b]? = some (.cells cs t (0, 0))
theorem Blk.bel {w w' : World} {b : Nat} {cs : Array Value} {t : TypeId} (h : Blk w b cs t) (hb : Bel w w') : Blk w' b cs t := (hb.block _ (blk_lt h)).trans h
theorem Blk.alloc {w : World} {b : Nat} {cs : Array Value} {t : TypeId} (h : Blk w b cs t) (o : Obj) : Blk (w.alloc o) b cs t := h.bel (bel_alloc (Below.refl _ _) o)
theorem Blk.new (w : World) (cs : Array Value) (t : TypeId) : Blk (w.alloc (.cells cs t)) w.heap.size cs t := heap_alloc_new w _
theorem Blk.cell {w : World} {b : Nat} {cs : Array Value} {t : TypeId} (h : Blk w b cs t) (i : Nat) : w.cell? ⟨b, i, none⟩ = cs[i]? := blk_cell h i
theorem Blk.free {w : World} {b : Nat} {cs : Array Value} {t : TypeId} (h : Blk w b cs t) (i : Nat) : w.frozen? ⟨b, i, none⟩ = false := blk_frozen h i
theorem Blk.lt {w : World} {b : Nat} {cs : Array Value} {t : TypeId} (h : Blk w b cs t) : b < w.heap.size := blk_lt h
/-- Worlds that have grown out of w: the class for regions that draw their order and whose callees lay blocks. -/
structure GB (w : World) where
  W : World
  h : Bel w W
instance (w : World) : Inhabited (GB w) := ⟨⟨w, Below.refl _ _⟩⟩
theorem wp_region_gb {P : Program} {id : Nat} {Q : Exit → Act → World → Prop} {a : Act} {w : World} {l : List Oper} (hm : P.follows .mixedOrders = true) (hB : Region.lexB .any l.toArray = true)
    (h : wpQuiet P l.toArray (fun w' => ∃ p : GB w, w' = p.W) (fun a' => ∀ w', (∃ p : GB w, w' = p.W) → Q .normal a' w') l a) : (Code.region id l.toArray true).wp P Q a w :=
  wp_region_quiet (C := fun w' => ∃ p : GB w, w' = p.W) hm hB ⟨⟨_, (Below.refl _ _).drew⟩, rfl⟩ (by simpa using h)
theorem gb_cell {w : World} {a : Addr} {v : Value} (h : w.cell? a = some v) (p : GB w) : p.W.cell? a = some v := (p.h.cell (World.block_lt_of_cell? w _ h)).trans h
theorem gb_call {P : Program} {f : FuncId} {args : Array Value} {w : World} {v : Value} {p : GB w} (h : Calls P f args p.W (Ret v p.W)) : Calls P f args p.W fun e w'' => e = .returned v ∧ ∃ q : GB w, w'' = q.W :=
  h.mono fun _ _ ⟨he, hb⟩ => ⟨he, ⟨⟨_, p.h.tr hb⟩, rfl⟩⟩
end Go.Proofs.Ytccllgpaafgjaaa
/- Plain Lean: what the pool functions compute, on lists; no memory and no program in sight. -/

namespace Go.Proofs.Ytccllgpaafgjaaa
open Go.RowKit Go.Proofs.YtccllgpaafgjaaaW.PrintWords
set_option linter.unusedVariables false
set_option linter.unusedSimpArgs false

def inR (a b c : Int) : Bool := decide (b ≤ a) && decide (a ≤ c)
theorem str_eq {a b : ByteArray} (h : a.toList = b.toList) : a = b := by
  rw [ByteArray.toList_eq, ByteArray.toList_eq] at h
  cases a; cases b; simp at h; rw [h]
def eqS (a b : ByteArray) : Bool := a.toList == b.toList
def e0 : ByteArray := ⟨#[]⟩
theorem size_toList (s : ByteArray) : s.toList.length = s.size := by rw [ByteArray.toList_eq, Array.length_toList]; rfl
theorem toList_nil {s : ByteArray} : s.toList = [] ↔ s = e0 := by
  constructor
  · intro h; exact str_eq (by rw [h, ByteArray.toList_eq]; rfl)
  · rintro rfl; rw [ByteArray.toList_eq]; rfl

/-! ### pieces -/
def ltr (b : UInt8) : Bool := inR (b.toNat : Int) 97 100
def tOk (s : ByteArray) : Bool := s.toList.all ltr && decide (s.size ≤ 4)
/-! ### names -/
def isNm (s : ByteArray) : Bool := s.toList == [65] || (s.toList == [66] || (s.toList == [67] || s.toList == [68]))
/-! ### all below a number -/
def allN (f : Nat → Bool) (n : Nat) : Bool := (List.range n).all f
/-! ### the slot store -/
def slotOk (x : Slot) : Bool := tOk x.text && inR x.uses 0 99 && ((x.text.toList == []) == (x.uses == 0))
def hasText (t : ByteArray) (s : List Slot) : Bool := s.any fun o => o.text.toList == t.toList
def dupIn (x : Slot) (pre : List Slot) : Bool := !(x.text.toList == []) && hasText x.text pre
def storeAt (s : List Slot) (i : Nat) : Bool := slotOk (s.getD i Slot.z) && !dupIn (s.getD i Slot.z) (s.take i)
def storeOk (s : List Slot) : Bool := allN (storeAt s) s.length && decide (s.length = 8)
theorem getD_of {α} {xs : List α} {k : Nat} {x d : α} (h : xs[k]? = some x) : xs.getD k d = x := by rw [List.getD_eq_getElem?_getD, h]; rfl
/-! ### volumes -/
def volOk (v : Vol) : Bool := v.blocks.all (fun p => inR p 0 8) && (isNm v.name && inR (v.blocks.length : Int) 1 6)
def cnt (p : Int) : List Int → Int
  | [] => 0
  | x :: xs => (if x = p then 1 else 0) + cnt p xs
theorem cnt_le (p : Int) (xs : List Int) : 0 ≤ cnt p xs ∧ cnt p xs ≤ xs.length := by
  induction xs with
  | nil => simp [cnt]
  | cons y ys ih => simp only [cnt, List.length_cons]; split <;> omega
def uses (p : Int) : List Vol → Int
  | [] => 0
  | x :: xs => cnt p x.blocks + uses p xs
/-- Bounds that keep all counters from wrapping. -/
structure SmallV (vs : List Vol) : Prop where
  len : vs.length ≤ 1048576
  blocks : ∀ v ∈ vs, v.blocks.length ≤ 1048576
  name : ∀ v ∈ vs, v.name.size ≤ 1048576
theorem SmallV.take {vs : List Vol} (h : SmallV vs) (k : Nat) : SmallV (vs.take k) := ⟨Nat.le_trans (List.length_take_le' _ _) h.len, fun v hv => h.blocks v (List.mem_of_mem_take hv), fun v hv => h.name v (List.mem_of_mem_take hv)⟩
structure SmallS (s : List Slot) : Prop where
  len : s.length ≤ 1048576
  text : ∀ x ∈ s, x.text.size ≤ 1048576

/-! ### pools -/
def volsAt (vs : List Vol) (k : Nat) : Bool := volOk (vs.getD k Vol.z) && !(decide (0 < k) && !Op.bytesLess (vs.getD (k - 1) Vol.z).name.toList (vs.getD k Vol.z).name.toList)
def usesAt (p : Pool) (k : Nat) : Bool := (p.slots.getD k Slot.z).uses == uses (k + 1) p.vols
def poolOk (p : Pool) : Bool := storeOk p.slots && decide (p.vols.length ≤ 4) && allN (volsAt p.vols) p.vols.length && allN (usesAt p) 8
structure SmallP (p : Pool) : Prop where
  slots : SmallS p.slots
  vols : SmallV p.vols
structure PoolIn (w : World) (A0 A1 : Option Addr) (c0 c1 : Nat) (p : Pool) : Prop where
  s : kSlot.C w A0 p.slots.length p.slots
  sc : p.slots.length ≤ c0
  v : kVol.C w A1 p.vols.length p.vols
  vc : p.vols.length ≤ c1
theorem PoolIn.bel {w w' : World} {A0 A1 : Option Addr} {c0 c1 : Nat} {p : Pool} (h : PoolIn w A0 A1 c0 c1 p) (hb : Below w.heap.size w w') : PoolIn w' A0 A1 c0 c1 p :=
  ⟨Kd.C_below h.s hb, h.sc, Kd.C_below h.v hb, h.vc⟩
theorem PoolIn.alloc {w : World} {A0 A1 : Option Addr} {c0 c1 : Nat} {p : Pool} (h : PoolIn w A0 A1 c0 c1 p) (o : Obj) : PoolIn (w.alloc o) A0 A1 c0 c1 p := h.bel (bel_alloc (Below.refl _ _) o)

/-! ### the first that .. -/
def idx {α} (f : α → Bool) (xs : List α) : Int := match xs.findIdx? f with | some i => i | none => -1
theorem idx_none {α} {xs : List α} {f : α → Bool} (h : xs.any f = false) : idx f xs = -1 := by
  have h2 : xs.findIdx? f = none := by
    rw [List.findIdx?_eq_none_iff]; rw [List.any_eq_false] at h; intro x hx; simpa using h x hx
  unfold idx; rw [h2]
theorem idx_bd {α} (f : α → Bool) (xs : List α) : -1 ≤ idx f xs ∧ idx f xs < xs.length ∧ (0 ≤ idx f xs ↔ xs.any f = true) := by
  cases h : xs.any f
  · rw [idx_none h]; simp; omega
  · unfold idx
    cases h2 : xs.findIdx? f with
    | none => rw [List.findIdx?_eq_none_iff] at h2; rw [List.any_eq_true] at h; obtain ⟨x, hx, hf⟩ := h; rw [h2 x hx] at hf; cases hf
    | some i => rw [List.findIdx?_eq_some_iff_getElem] at h2; obtain ⟨hi, _⟩ := h2; simp; omega
theorem idx_get {α} {f : α → Bool} {xs : List α} (h : 0 ≤ idx f xs) : ∃ x, xs[(idx f xs).toNat]? = some x ∧ f x = true := by
  unfold idx at *
  cases h2 : xs.findIdx? f with
  | none => rw [h2] at h; simp at h
  | some i => rw [List.findIdx?_eq_some_iff_getElem] at h2; obtain ⟨hi, hf, _⟩ := h2; exact ⟨_, by simp only [Int.toNat_natCast]; exact List.getElem?_eq_getElem hi, hf⟩

/-! ### reading a pool -/
def volIdx (vs : List Vol) (name : ByteArray) : Int := idx (fun v => v.name.toList == name.toList) vs
def volAt (vs : List Vol) (i : Int) : Vol := vs.getD i.toNat Vol.z
def hasBlk (vs : List Vol) (name : ByteArray) (b : Int) : Int :=
  if volIdx vs name < 0 then -1 else if inR b 0 ((volAt vs (volIdx vs name)).blocks.length - 1) then volIdx vs name else -1
def lgBlks (vs : List Vol) (name : ByteArray) : Int := if volIdx vs name < 0 then 0 else (volAt vs (volIdx vs name)).blocks.length
def placeAt (vs : List Vol) (name : ByteArray) (b : Int) : Int := (volAt vs (volIdx vs name)).blocks.getD b.toNat 0
def slotText (s : List Slot) (place : Int) : ByteArray := (s.getD (place - 1).toNat Slot.z).text
def readOf (p : Pool) (name : ByteArray) (b : Int) : ByteArray := if 0 < placeAt p.vols name b then slotText p.slots (placeAt p.vols name b) else e0
def readOk (p : Pool) (name : ByteArray) (b : Int) : Bool := decide (0 ≤ hasBlk p.vols name b) && poolOk p
def freeN : List Slot → Int
  | [] => 0
  | x :: xs => (if x.uses = 0 then 1 else 0) + freeN xs
def storeFree (s : List Slot) : Int := if storeOk s then freeN s else -1

/-! ### what a valid pool is like -/
theorem volOk_parts {v : Vol} (h : volOk v = true) : (∀ x ∈ v.blocks, 0 ≤ x ∧ x ≤ 8) ∧ isNm v.name = true ∧ 1 ≤ v.blocks.length ∧ v.blocks.length ≤ 6 := by
  simp [volOk, inR] at h; exact ⟨h.1, h.2.1, by omega, by omega⟩
end Go.Proofs.Ytccllgpaafgjaaa
/- What the program's and the reference's smallest functions compute: ranges, letters, names, the next slot. -/

namespace Go.Proofs.Ytccllgpaafgjaaa
open Go.RowKit Go.Proofs.YtccllgpaafgjaaaW.PrintWords
set_option linter.unusedVariables false
set_option linter.unusedSimpArgs false

theorem l6In_c (a b c : Int) (w : World) : Calls Try.prog 50 #[.int .i64 a, .int .i64 b, .int .i64 c] w (Same (.bool (inR a b c)) w) := by
  by_cases h : b ≤ a
  all_goals
    have hh := h
    go_enter Try.func50, Try.ntmps50
    go_wp2
    go_ret
    exact ⟨ret_bool (by simp [inR, hh]; try omega), rfl⟩
end Go.Proofs.Ytccllgpaafgjaaa
/- What the readers of slot stores, volumes and pools compute: VolOk, uses, StoreOk, PoolOk, in the program and in the reference. -/

namespace Go.Proofs.Ytccllgpaafgjaaa
open Go.RowKit Go.Proofs.YtccllgpaafgjaaaW.PrintWords
set_option linter.unusedVariables false
set_option linter.unusedSimpArgs false

end Go.Proofs.Ytccllgpaafgjaaa
/- StoreOk, find, isAsked, StoreFind of the program; StoreOk of the reference. -/

namespace Go.Proofs.Ytccllgpaafgjaaa
open Go.RowKit Go.Proofs.YtccllgpaafgjaaaW.PrintWords
set_option linter.unusedVariables false
set_option linter.unusedSimpArgs false

end Go.Proofs.Ytccllgpaafgjaaa
/- StoreOk of the program and of the reference. -/

namespace Go.Proofs.Ytccllgpaafgjaaa
open Go.RowKit Go.Proofs.YtccllgpaafgjaaaW.PrintWords
set_option linter.unusedVariables false
set_option linter.unusedSimpArgs false

end Go.Proofs.Ytccllgpaafgjaaa
/- PoolOk of the reference and of the program. -/

namespace Go.Proofs.Ytccllgpaafgjaaa
open Go.RowKit Go.Proofs.YtccllgpaafgjaaaW.PrintWords
set_option linter.unusedVariables false
set_option linter.unusedSimpArgs false

theorem SmallV.at {vs : List Vol} (h : SmallV vs) {k : Nat} {x : Vol} (hx : vs[k]? = some x) : x.blocks.length ≤ 1048576 ∧ x.name.size ≤ 1048576 := ⟨h.blocks x (List.mem_of_getElem? hx), h.name x (List.mem_of_getElem? hx)⟩
end Go.Proofs.Ytccllgpaafgjaaa
/- PoolOk of the program. -/

namespace Go.Proofs.Ytccllgpaafgjaaa
open Go.RowKit Go.Proofs.YtccllgpaafgjaaaW.PrintWords
set_option linter.unusedVariables false
set_option linter.unusedSimpArgs false

end Go.Proofs.Ytccllgpaafgjaaa
/- Finding a volume, a block, and reading one; counting free slots. -/

namespace Go.Proofs.Ytccllgpaafgjaaa
open Go.RowKit Go.Proofs.YtccllgpaafgjaaaW.PrintWords
set_option linter.unusedVariables false
set_option linter.unusedSimpArgs false

end Go.Proofs.Ytccllgpaafgjaaa
/- hasBlock, PoolRead, StoreFree, StoreFind of the program. -/

namespace Go.Proofs.Ytccllgpaafgjaaa
open Go.RowKit Go.Proofs.YtccllgpaafgjaaaW.PrintWords
set_option linter.unusedVariables false
set_option linter.unusedSimpArgs false

def readV (p : Pool) (t : ByteArray) (b : Int) : ByteArray := if readOk p t b then readOf p t b else e0
end Go.Proofs.Ytccllgpaafgjaaa
/- OpOk of both: which changes are in form. -/

namespace Go.Proofs.Ytccllgpaafgjaaa
open Go.RowKit Go.Proofs.YtccllgpaafgjaaaW.PrintWords
set_option linter.unusedVariables false
set_option linter.unusedSimpArgs false

def emp (t : ByteArray) : Bool := t.toList.isEmpty
def opRest (o : Op) : Bool :=
  if o.kind = 1 then emp o.dest && (inR o.n 1 6 && emp o.text)
  else if o.kind = 2 then emp o.dest && (inR o.n 0 5 && tOk o.text)
  else if o.kind = 3 then isNm o.dest && (decide (o.n = 0) && emp o.text)
  else if o.kind = 4 then emp o.dest && (decide (o.n = 0) && emp o.text)
  else false
def opOk (o : Op) : Bool := isNm o.name && opRest o
def opV (o : Op) : Value := .agg #[.int .i64 o.kind, .string o.name, .string o.dest, .int .i64 o.n, .string o.text]
structure SmallO (o : Op) : Prop where
  name : o.name.size ≤ 1048576
  dest : o.dest.size ≤ 1048576
  text : o.text.size ≤ 1048576
end Go.Proofs.Ytccllgpaafgjaaa
/- Rows of one's own: arrays that a call has made, told by the list that they hold; reading, storing, keeping. -/

namespace Go.Proofs.Ytccllgpaafgjaaa
open Go.RowKit Go.Proofs.YtccllgpaafgjaaaW.PrintWords
set_option linter.unusedVariables false
set_option linter.unusedSimpArgs false

section flat
variable {α β : Type} {enc : α → List β} {sz : Nat}
theorem flat_len (hl : ∀ x, (enc x).length = sz) (xs : List α) : (xs.flatMap enc).length = xs.length * sz := by
  induction xs with
  | nil => simp
  | cons y ys ih => simp only [List.flatMap_cons, List.length_append, hl, ih, List.length_cons, Nat.add_mul]; omega
theorem flat_get (hl : ∀ x, (enc x).length = sz) {xs : List α} {i j : Nat} {x : α} (h : xs[i]? = some x) (hj : j < sz) : (xs.flatMap enc)[i * sz + j]? = (enc x)[j]? := by
  induction xs generalizing i with
  | nil => simp at h
  | cons y ys ih =>
    rw [List.flatMap_cons]
    cases i with
    | zero =>
      simp at h; subst h
      rw [Nat.zero_mul, Nat.zero_add, List.getElem?_append_left (by rw [hl]; exact hj)]
    | succ i =>
      rw [List.getElem?_append_right (by rw [hl, Nat.succ_mul]; omega), hl, show (i + 1) * sz + j - sz = i * sz + j by rw [Nat.succ_mul]; omega]
      exact ih (by simpa using h)
theorem flat_seg (hl : ∀ x, (enc x).length = sz) {xs : List α} {i : Nat} {x : α} (h : xs[i]? = some x) : ((xs.flatMap enc).drop (i * sz)).take sz = enc x := by
  apply List.ext_getElem?
  intro j
  rw [List.getElem?_take]
  split
  · rename_i hj; rw [List.getElem?_drop, flat_get hl h hj]
  · rename_i hj; rw [List.getElem?_eq_none]; rw [hl]; omega
theorem flat_set (hl : ∀ x, (enc x).length = sz) {xs : List α} {i j : Nat} {x y : α} {u : β} (h : xs[i]? = some x) (hj : j < sz) (he : enc y = (enc x).set j u) : (xs.flatMap enc).set (i * sz + j) u = (xs.set i y).flatMap enc := by
  induction xs generalizing i with
  | nil => simp at h
  | cons z zs ih =>
    cases i with
    | zero =>
      simp at h; subst h
      rw [List.flatMap_cons, Nat.zero_mul, Nat.zero_add, List.set_append, if_pos (by rw [hl]; exact hj), List.set_cons_zero, List.flatMap_cons, he]
    | succ i =>
      rw [List.flatMap_cons, List.set_append, if_neg (by rw [hl, Nat.succ_mul]; omega), hl, show (i + 1) * sz + j - sz = i * sz + j by rw [Nat.succ_mul]; omega, List.set_cons_succ, List.flatMap_cons, ih (by simpa using h)]
end flat

def encS (x : Slot) : List Value := [.string x.text, .int .i64 x.uses]
def encI (x : Int) : List Value := [.int .i64 x]
def encV (x : Vol × Value) : List Value := [.string x.1.name, x.2]
theorem encS_len (x : Slot) : (encS x).length = 2 := rfl
theorem encI_len (x : Int) : (encI x).length = 1 := rfl
theorem encV_len (x : Vol × Value) : (encV x).length = 2 := rfl

/-- Only this row may have changed; new blocks may have come. -/
abbrev Grown (w w' : World) (v : Value) : Prop := w.grownBy w' v.ownBlock
theorem grown_refl (w : World) (r : Option Nat) : w.grownBy w r := ⟨rfl, rfl, rfl, Nat.le_refl _, fun _ _ _ => rfl⟩
theorem grown_of_bel {w w' : World} (h : Bel w w') (r : Option Nat) : w.grownBy w' r := ⟨h.os, h.tape, h.output, h.size, fun k hk _ => h.block k hk⟩
theorem grown_tr {a b c : World} {r : Option Nat} (h : a.grownBy b r) (k : b.grownBy c r) : a.grownBy c r :=
  ⟨k.os.trans h.os, k.tape.trans h.tape, k.output.trans h.output, Nat.le_trans h.size k.size, fun i hi hr => (k.block i (Nat.lt_of_lt_of_le hi h.size) hr).trans (h.block i hi hr)⟩
/-- A row of one's own that is not empty lies at the head of a block. -/
theorem own_form {w : World} {base : Nat} {e : TypeId} {sz n : Nat} {v : Value} {xs : List Value} (h : w.ownsRow base e sz v n xs) (hn : 0 < n) : ∃ g cap, v = .slice (some ⟨g, 0, none⟩) n cap ∧ base ≤ g ∧ g < w.heap.size ∧ n ≤ cap := by
  rcases h.2 with ⟨_, h0⟩ | ⟨g, cap, cur, rfl, hb, hg, hc, _⟩
  · omega
  · exact ⟨g, cap, rfl, hb, (Array.getElem?_eq_some_iff.1 hg).1, hc⟩
theorem own_cap {w : World} {base : Nat} {e : TypeId} {sz n : Nat} {v : Value} {xs : List Value} (h : w.ownsRow base e sz v n xs) : ∃ A c, v = .slice A n c ∧ n ≤ c := by
  rcases h.2 with ⟨rfl, rfl⟩ | ⟨g, cap, cur, rfl, hb, hg, hc, _⟩
  · exact ⟨none, 0, rfl, Nat.le_refl _⟩
  · exact ⟨_, cap, rfl, hc⟩
theorem reps_flat {α : Type} {R : α → List Value → Prop} {enc : α → List Value} {sz : Nat} (hl : ∀ x, (enc x).length = sz) (xs : List α) (hR : ∀ x ∈ xs, R x (enc x)) : Reps R sz xs (xs.flatMap enc) :=
  ⟨flat_len hl xs, fun j p hp => by rw [flat_seg hl hp]; exact hR p (List.mem_of_getElem? hp)⟩
theorem kSlot_mk (w : World) (x : Slot) : kSlot.K w x (encS x) := ⟨[.string x.text], [.int .i64 x.uses], rfl, rfl, rfl⟩

/-- A row of slots of one's own. -/
def OwnS (w : World) (base : Nat) (v : Value) (s : List Slot) : Prop := w.ownsRow base 99 2 v s.length (s.flatMap encS)
theorem OwnS.reads {w : World} {base : Nat} {v : Value} {s : List Slot} (h : OwnS w base v s) : ∃ A c, v = .slice A s.length c ∧ s.length ≤ c ∧ kSlot.C w A s.length s := by
  obtain ⟨A, c, e, hr⟩ := own_reads_row h (reps_flat encS_len s fun x _ => kSlot_mk w x) rfl
  obtain ⟨A', c', e', hc⟩ := own_cap h
  rw [e] at e'
  injection e' with _ _ e3
  exact ⟨A, c, e, e3 ▸ hc, hr⟩
theorem OwnS.bel {w w' : World} {base : Nat} {v : Value} {s : List Slot} (h : OwnS w base v s) (hb : Bel w w') : OwnS w' base v s := pw_own_below h hb
theorem OwnS.kept {w w' : World} {base : Nat} {v : Value} {s : List Slot} {r : Option Nat} (h : OwnS w base v s) (hg : w.grownBy w' r) (hne : v.ownBlock = none ∨ v.ownBlock ≠ r) : OwnS w' base v s := World.ownsRow.kept h hg hne
/-- A row of numbers of one's own. -/
def OwnI (w : World) (base : Nat) (v : Value) (s : List Int) : Prop := w.ownsRow base 3 1 v s.length (s.flatMap encI)
theorem OwnI.reads {w : World} {base : Nat} {v : Value} {s : List Int} (h : OwnI w base v s) : ∃ A c, v = .slice A s.length c ∧ s.length ≤ c ∧ kInt.C w A s.length s := by
  obtain ⟨A, c, e, hr⟩ := own_reads_row h (reps_flat (R := kInt.K w) encI_len s fun x _ => rfl) rfl
  obtain ⟨A', c', e', hc⟩ := own_cap h
  rw [e] at e'
  injection e' with _ _ e3
  exact ⟨A, c, e, e3 ▸ hc, hr⟩

theorem own_empty (w : World) (base : Nat) (e : TypeId) (sz : Nat) (hb : base ≤ w.heap.size) : (w.alloc (.cells #[] e)).ownsRow base e sz (.slice (some ⟨w.heap.size, 0, none⟩) 0 0) 0 [] := by
  have := World.ownsRow_lit (base := base) (e := e) (size := sz) w #[] 0 hb (by simp) (by simp)
  exact this
end Go.Proofs.Ytccllgpaafgjaaa
/- Where the search for a piece starts; dropping a reference, adding one, in slots of one's own. -/


namespace Go.Proofs.Ytccllgpaafgjaaa
open Go.RowKit Go.Proofs.YtccllgpaafgjaaaW.PrintWords
set_option linter.unusedVariables false
set_option linter.unusedSimpArgs false

def psum : Nat → List UInt8 → Int
  | _, [] => 0
  | i, b :: l => ((i : Int) + 1) * ((b.toNat : Int) - 96) + psum (i + 1) l
def placeOf (s : ByteArray) : Int := psum 0 s.toList % 8 + 1
end Go.Proofs.Ytccllgpaafgjaaa
/- drop, put (program); l2Drop, l2Find, l2Put (reference): a reference less, a reference more, in slots of one's own. -/

namespace Go.Proofs.Ytccllgpaafgjaaa
open Go.RowKit Go.Proofs.YtccllgpaafgjaaaW.PrintWords
set_option linter.unusedVariables false
set_option linter.unusedSimpArgs false

def lessS (x : Slot) : Slot := if x.uses - 1 = 0 then ⟨e0, 0⟩ else ⟨x.text, x.uses - 1⟩
def dropS (s : List Slot) (m : Nat) : List Slot := s.set m (lessS (s.getD m Slot.z))
theorem dropS_eq {s : List Slot} {m : Nat} {x : Slot} (h : s[m]? = some x) : dropS s m = s.set m (lessS x) := by unfold dropS; rw [getD_of h]

/-- A slot of one's own, as a walk reads and stores it. -/
theorem OwnS.at {w : World} {base : Nat} {v : Value} {s : List Slot} (h : OwnS w base v s) {m : Nat} {x : Slot} (hx : s[m]? = some x) :
    ∃ g cap, v = .slice (some ⟨g, 0, none⟩) s.length cap ∧ base ≤ g ∧ g < w.heap.size ∧ s.length ≤ cap ∧ w.cell? ⟨g, m * 2, none⟩ = some (.string x.text) ∧ w.cell? ⟨g, m * 2 + 1, none⟩ = some (.int .i64 x.uses) ∧ w.frozen? ⟨g, m * 2, none⟩ = false ∧ w.frozen? ⟨g, m * 2 + 1, none⟩ = false := by
  have hm := ltQ hx
  obtain ⟨g, cap, rfl, hb, hg, hc⟩ := own_form h (by omega)
  refine ⟨g, cap, rfl, hb, hg, hc, ?_, ?_, World.ownsRow.frozenAt h _, World.ownsRow.frozenAt h _⟩
  · rw [World.ownsRow.cellAt h _ (by omega), show m * 2 = m * 2 + 0 from rfl, flat_get encS_len hx (by omega)]; rfl
  · rw [World.ownsRow.cellAt h _ (by omega), flat_get encS_len hx (by omega)]; rfl
/-- What a writer of slots leaves: the row as told, nothing else changed. -/
def Wrote (r : Value) (w : World) (base : Nat) (v : Value) (s : List Slot) (e : Ending) (w' : World) : Prop := e = .returned r ∧ OwnS w' base v s ∧ w.grownBy w' v.ownBlock

/-! ### adding a reference -/
def probe (s : List Slot) : Nat → Int → Int
  | 0, _ => 0
  | n + 1, p => if (s.getD (p - 1).toNat Slot.z).uses = 0 then p else probe s n (p % 8 + 1)
def putAt (s : List Slot) (t : ByteArray) : Int :=
  if idx (fun o : Slot => o.text.toList == t.toList) s = -1 then probe s 8 (placeOf t)
  else if (s.getD (idx (fun o : Slot => o.text.toList == t.toList) s).toNat Slot.z).uses = 99 then 0 else idx (fun o : Slot => o.text.toList == t.toList) s + 1
def moreS (s : List Slot) (t : ByteArray) (p : Int) : List Slot := if p = 0 then s else s.set (p - 1).toNat ⟨t, (s.getD (p - 1).toNat Slot.z).uses + 1⟩
def putS (s : List Slot) (t : ByteArray) : List Slot := moreS s t (putAt s t)
end Go.Proofs.Ytccllgpaafgjaaa
/- l2Find, l2Put of the reference. -/

namespace Go.Proofs.Ytccllgpaafgjaaa
open Go.RowKit Go.Proofs.YtccllgpaafgjaaaW.PrintWords
set_option linter.unusedVariables false
set_option linter.unusedSimpArgs false

def scan (s : List Slot) (t : ByteArray) : Nat → Int → Int → Int × Bool
  | 0, _, free => (free, false)
  | n + 1, p, free => if (s.getD (p - 1).toNat Slot.z).text.toList == t.toList then (p, true)
      else scan s t n (p % 8 + 1) (if (s.getD (p - 1).toNat Slot.z).uses = 0 ∧ free = 0 then p else free)
def scanS (s : List Slot) (t : ByteArray) : Int × Bool := scan s t 8 (placeOf t) 0
def putAt2 (s : List Slot) (t : ByteArray) : Int := if (scanS s t).1 = 0 ∨ 99 ≤ (s.getD ((scanS s t).1 - 1).toNat Slot.z).uses then 0 else (scanS s t).1
end Go.Proofs.Ytccllgpaafgjaaa
/- Rows of volumes of one's own: the array of volumes, and each volume's array of blocks. -/

namespace Go.Proofs.Ytccllgpaafgjaaa
open Go.RowKit Go.Proofs.YtccllgpaafgjaaaW.PrintWords
set_option linter.unusedVariables false
set_option linter.unusedSimpArgs false

/-- The array of volumes: its cells are the names and the slices bvs. -/
structure VRow (w : World) (base : Nat) (v : Value) (vs : List Vol) (bvs : List Value) : Prop where
  len : bvs.length = vs.length
  row : w.ownsRow base 90 2 v vs.length ((vs.zip bvs).flatMap encV)
theorem zip_get {α β} {xs : List α} {ys : List β} {m : Nat} {x : α} {y : β} (hx : xs[m]? = some x) (hy : ys[m]? = some y) : (xs.zip ys)[m]? = some (x, y) := by
  rw [List.getElem?_zip_eq_some]; exact ⟨hx, hy⟩
theorem zip_setR {α β} {xs : List α} {ys : List β} {m : Nat} {x : α} (hx : xs[m]? = some x) (y : β) : (xs.zip ys).set m (x, y) = xs.zip (ys.set m y) := by
  induction xs generalizing ys m with
  | nil => simp at hx
  | cons a xs ih =>
    cases ys with
    | nil => simp
    | cons b ys =>
      cases m with
      | zero => simp at hx; subst hx; rfl
      | succ m => simp at hx; simp [ih hx]
theorem zip_setL {α β} {xs : List α} {ys : List β} {m : Nat} {y : β} (hy : ys[m]? = some y) (x : α) : (xs.zip ys).set m (x, y) = (xs.set m x).zip ys := by
  induction xs generalizing ys m with
  | nil => simp
  | cons a xs ih =>
    cases ys with
    | nil => simp at hy
    | cons b ys =>
      cases m with
      | zero => simp at hy; subst hy; rfl
      | succ m => simp at hy; simp [ih hy]
theorem VRow.at {w : World} {base : Nat} {v : Value} {vs : List Vol} {bvs : List Value} (h : VRow w base v vs bvs) {m : Nat} {x : Vol} (hx : vs[m]? = some x) :
    ∃ g cap b, bvs[m]? = some b ∧ v = .slice (some ⟨g, 0, none⟩) vs.length cap ∧ base ≤ g ∧ g < w.heap.size ∧ vs.length ≤ cap ∧ w.cell? ⟨g, m * 2, none⟩ = some (.string x.name) ∧ w.cell? ⟨g, m * 2 + 1, none⟩ = some b ∧ w.frozen? ⟨g, m * 2, none⟩ = false ∧ w.frozen? ⟨g, m * 2 + 1, none⟩ = false := by
  have hm := ltQ hx
  obtain ⟨b, hb⟩ := getQ (show m < bvs.length by rw [h.len]; exact hm)
  obtain ⟨g, cap, rfl, hbg, hg, hc⟩ := own_form h.row (by omega)
  refine ⟨g, cap, b, hb, rfl, hbg, hg, hc, ?_, ?_, World.ownsRow.frozenAt h.row _, World.ownsRow.frozenAt h.row _⟩
  · rw [World.ownsRow.cellAt h.row _ (by omega), show m * 2 = m * 2 + 0 from rfl, flat_get encV_len (zip_get hx hb) (by omega)]; rfl
  · rw [World.ownsRow.cellAt h.row _ (by omega), flat_get encV_len (zip_get hx hb) (by omega)]; rfl
theorem VRow.setB {w : World} {base g cap : Nat} {vs : List Vol} {bvs : List Value} (h : VRow w base (.slice (some ⟨g, 0, none⟩) vs.length cap) vs bvs) {m : Nat} {x : Vol} (hx : vs[m]? = some x) (b : Value) :
    VRow (w.setCell ⟨g, m * 2 + 1, none⟩ b) base (.slice (some ⟨g, 0, none⟩) vs.length cap) vs (bvs.set m b) ∧ w.grownBy (w.setCell ⟨g, m * 2 + 1, none⟩ b) (some g) := by
  obtain ⟨b0, hb0⟩ := getQ (show m < bvs.length by rw [h.len]; exact ltQ hx)
  have := World.ownsRow.stored h.row (m * 2 + 1) b
  rw [flat_set encV_len (y := (x, b)) (zip_get hx hb0) (by omega) rfl, zip_setR hx] at this
  exact ⟨⟨by rw [List.length_set]; exact h.len, this.1⟩, this.2⟩
theorem VRow.setN {w : World} {base g cap : Nat} {vs : List Vol} {bvs : List Value} (h : VRow w base (.slice (some ⟨g, 0, none⟩) vs.length cap) vs bvs) {m : Nat} {x : Vol} (hx : vs[m]? = some x) (t : ByteArray) :
    VRow (w.setCell ⟨g, m * 2, none⟩ (.string t)) base (.slice (some ⟨g, 0, none⟩) vs.length cap) (vs.set m ⟨t, x.blocks⟩) bvs ∧ w.grownBy (w.setCell ⟨g, m * 2, none⟩ (.string t)) (some g) := by
  obtain ⟨b0, hb0⟩ := getQ (show m < bvs.length by rw [h.len]; exact ltQ hx)
  have := World.ownsRow.stored h.row (m * 2) (.string t)
  rw [show m * 2 = m * 2 + 0 from rfl, flat_set encV_len (y := ((⟨t, x.blocks⟩ : Vol), b0)) (zip_get hx hb0) (by omega) rfl, zip_setL hb0] at this
  exact ⟨⟨by rw [List.length_set]; exact h.len, by rw [List.length_set]; exact this.1⟩, this.2⟩
theorem VRow.bel {w w' : World} {base : Nat} {v : Value} {vs : List Vol} {bvs : List Value} (h : VRow w base v vs bvs) (hb : Bel w w') : VRow w' base v vs bvs := ⟨h.len, pw_own_below h.row hb⟩
theorem VRow.kept {w w' : World} {base : Nat} {v : Value} {vs : List Vol} {bvs : List Value} {r : Option Nat} (h : VRow w base v vs bvs) (hg : w.grownBy w' r) (hne : v.ownBlock = none ∨ v.ownBlock ≠ r) : VRow w' base v vs bvs := ⟨h.len, World.ownsRow.kept h.row hg hne⟩

/-- Volumes of one's own, their blocks too; no two volumes share an array. -/
structure OwnV (w : World) (base : Nat) (v : Value) (vs : List Vol) (bvs : List Value) : Prop where
  row : VRow w base v vs bvs
  inner : ∀ (m : Nat) (x : Vol) (b : Value), vs[m]? = some x → bvs[m]? = some b → OwnI w base b x.blocks
  apart : ∀ (i j : Nat) (b b' : Value) (k : Nat), i ≠ j → bvs[i]? = some b → bvs[j]? = some b' → b.ownBlock = some k → b'.ownBlock ≠ some k
theorem reads_vrow {w : World} {base : Nat} {v : Value} {vs : List Vol} {bvs : List Value} (h : VRow w base v vs bvs)
    (hi : ∀ (m : Nat) (x : Vol) (b : Value), vs[m]? = some x → bvs[m]? = some b → ∃ A c, b = .slice A x.blocks.length c ∧ x.blocks.length ≤ c ∧ kInt.C w A x.blocks.length x.blocks) :
    ∃ A c, v = .slice A vs.length c ∧ vs.length ≤ c ∧ kVol.C w A vs.length vs := by
  have hR : Reps (kVol.K w) 2 vs ((vs.zip bvs).flatMap encV) := ⟨by rw [flat_len encV_len, List.length_zip, h.len, Nat.min_self], fun j p hp => by
    obtain ⟨b, hb⟩ := getQ (show j < bvs.length by rw [h.len]; exact ltQ hp)
    rw [flat_seg encV_len (zip_get hp hb)]
    obtain ⟨A, c, rfl, hc, hC⟩ := hi j p b hp hb
    exact ⟨[.string p.name], [.slice A p.blocks.length c], rfl, rfl, A, c, rfl, hc, hC⟩⟩
  obtain ⟨A, c, e, hr⟩ := own_reads_row h.row hR rfl
  obtain ⟨A', c', e', hc⟩ := own_cap h.row
  rw [e] at e'
  injection e' with _ _ e3
  exact ⟨A, c, e, e3 ▸ hc, hr⟩
theorem OwnV.reads {w : World} {base : Nat} {v : Value} {vs : List Vol} {bvs : List Value} (h : OwnV w base v vs bvs) : ∃ A c, v = .slice A vs.length c ∧ vs.length ≤ c ∧ kVol.C w A vs.length vs :=
  reads_vrow h.row fun m x b hx hb => (h.inner m x b hx hb).reads
theorem OwnI.bel {w w' : World} {base : Nat} {v : Value} {s : List Int} (h : OwnI w base v s) (hb : Bel w w') : OwnI w' base v s := pw_own_below h hb
theorem OwnI.kept {w w' : World} {base : Nat} {v : Value} {s : List Int} {r : Option Nat} (h : OwnI w base v s) (hg : w.grownBy w' r) (hne : v.ownBlock = none ∨ v.ownBlock ≠ r) : OwnI w' base v s := World.ownsRow.kept h hg hne
theorem OwnV.bel {w w' : World} {base : Nat} {v : Value} {vs : List Vol} {bvs : List Value} (h : OwnV w base v vs bvs) (hb : Bel w w') : OwnV w' base v vs bvs :=
  ⟨h.row.bel hb, fun m x b hx hbb => (h.inner m x b hx hbb).bel hb, h.apart⟩
/-- A block of a row of one's own has the row's element type. -/
theorem own_type {w : World} {base : Nat} {e : TypeId} {sz n k : Nat} {v : Value} {xs : List Value} (h : w.ownsRow base e sz v n xs) (hk : v.ownBlock = some k) : ∃ cs, w.heap[k]? = some (.cells cs e (0, 0)) := by
  rcases h.2 with ⟨rfl, _⟩ | ⟨g, cap, cur, rfl, _, hg, _⟩
  · simp [Value.ownBlock] at hk
  · simp [Value.ownBlock] at hk; subst hk; exact ⟨cur, hg⟩
/-- Rows of different element types lie in different blocks. -/
theorem own_ne_type {w : World} {b1 b2 : Nat} {e1 e2 : TypeId} {s1 s2 n1 n2 : Nat} {v1 v2 : Value} {x1 x2 : List Value} (h1 : w.ownsRow b1 e1 s1 v1 n1 x1) (h2 : w.ownsRow b2 e2 s2 v2 n2 x2) (hne : e1 ≠ e2) : v1.ownBlock = none ∨ v1.ownBlock ≠ v2.ownBlock := by
  cases hk : v1.ownBlock with
  | none => exact .inl rfl
  | some k =>
    refine .inr fun e => ?_
    obtain ⟨c1, hc1⟩ := own_type h1 hk
    obtain ⟨c2, hc2⟩ := own_type h2 e.symm
    rw [hc1] at hc2
    injection hc2 with hc2
    injection hc2 with _ ht
    exact hne ht
/-- A row is kept where another one, of another element type, is written. -/
theorem own_other_type {w w' : World} {b1 b2 : Nat} {e1 e2 : TypeId} {s1 s2 n1 n2 : Nat} {v1 v2 : Value} {x1 x2 : List Value} (h1 : w.ownsRow b1 e1 s1 v1 n1 x1) (h2 : w.ownsRow b2 e2 s2 v2 n2 x2) (hne : e1 ≠ e2) (hg : w.grownBy w' v2.ownBlock) : w'.ownsRow b1 e1 s1 v1 n1 x1 :=
  World.ownsRow.kept h1 hg (own_ne_type h1 h2 hne)
theorem OwnV.nil (w : World) (base : Nat) : OwnV w base (.slice none 0 0) [] [] :=
  ⟨⟨rfl, World.ownsRow_nil _ _ _ _⟩, fun m x b hx _ => by simp at hx, fun i j b b' k _ hb => by simp at hb⟩

/-- A pool of one's own. -/
structure OwnP (w : World) (base : Nat) (v0 v1 : Value) (p : Pool) (bvs : List Value) : Prop where
  s : OwnS w base v0 p.slots
  v : OwnV w base v1 p.vols bvs
theorem OwnP.bel {w w' : World} {base : Nat} {v0 v1 : Value} {p : Pool} {bvs : List Value} (h : OwnP w base v0 v1 p bvs) (hb : Bel w w') : OwnP w' base v0 v1 p bvs := ⟨h.s.bel hb, h.v.bel hb⟩
theorem OwnP.reads {w : World} {base : Nat} {v0 v1 : Value} {p : Pool} {bvs : List Value} (h : OwnP w base v0 v1 p bvs) : ∃ A0 A1 c0 c1, v0 = .slice A0 p.slots.length c0 ∧ v1 = .slice A1 p.vols.length c1 ∧ PoolIn w A0 A1 c0 c1 p := by
  obtain ⟨A0, c0, h0, l0, g0⟩ := h.s.reads
  obtain ⟨A1, c1, h1, l1, g1⟩ := h.v.reads
  exact ⟨A0, A1, c0, c1, h0, h1, g0, l0, g1, l1⟩
/-! ### stores into a variable's own block -/
theorem Blk.set {w : World} {b : Nat} {cs cs' : Array Value} {t : TypeId} (h : Blk w b cs t) (i : Nat) (u : Value) (e : cs.setIfInBounds i u = cs') : Blk (w.setCell ⟨b, i, none⟩ u) b cs' t := e ▸ blk_set h i u
theorem bel_set {w w1 : World} (h : Bel w w1) {b : Nat} (hb : w.heap.size ≤ b) (i : Nat) (u : Value) : Bel w (w1.setCell ⟨b, i, none⟩ u) := h.setCell hb u
end Go.Proofs.Ytccllgpaafgjaaa
/- New slots, copies of slots, of volumes, of pools. -/



namespace Go.Proofs.Ytccllgpaafgjaaa
open Go.RowKit Go.Proofs.YtccllgpaafgjaaaW.PrintWords
set_option linter.unusedVariables false
set_option linter.unusedSimpArgs false

/-- What a maker of slots leaves. -/
def MadeS (w : World) (s : List Slot) (e : Ending) (w' : World) : Prop := ∃ v, e = .returned v ∧ OwnS w' w.heap.size v s ∧ Bel w w'
/-- What a maker of numbers leaves. -/
def MadeI (w : World) (s : List Int) (e : Ending) (w' : World) : Prop := ∃ v, e = .returned v ∧ OwnI w' w.heap.size v s ∧ Bel w w'
/-- What slices.Clone leaves of volumes: the array is new, the blocks are the old ones. -/
def MadeVR (w0 w : World) (vs : List Vol) (e : Ending) (w' : World) : Prop := ∃ v bvs, e = .returned v ∧ VRow w' w.heap.size v vs bvs ∧
  (∀ (m : Nat) (x : Vol) (b : Value), vs[m]? = some x → bvs[m]? = some b → ∃ A c, b = .slice A x.blocks.length c ∧ x.blocks.length ≤ c ∧ kInt.C w0 A x.blocks.length x.blocks) ∧ Bel w w'
end Go.Proofs.Ytccllgpaafgjaaa
/- szSlot, szIntS, szVol, szSlotS, szVolS, szPool: what is not too great is small. -/

namespace Go.Proofs.Ytccllgpaafgjaaa
open Go.RowKit Go.Proofs.YtccllgpaafgjaaaW.PrintWords
set_option linter.unusedVariables false
set_option linter.unusedSimpArgs false

/-- A number is returned; if it is not negative, C holds, and it is at most what was left. -/
def Left (C : Prop) (left : Int) (w : World) (e : Ending) (w' : World) : Prop := ∃ r : Int, e = .returned (.int .i64 r) ∧ Bel w w' ∧ (0 ≤ r → C ∧ r ≤ left) ∧ -1 ≤ r
/-- Lengths that a memory can bear. -/
structure RawS (s : List Slot) : Prop where
  len : s.length ≤ 9223372036854775807
  text : ∀ x ∈ s, x.text.size ≤ 9223372036854775807
structure RawV (vs : List Vol) : Prop where
  len : vs.length ≤ 9223372036854775807
  name : ∀ x ∈ vs, x.name.size ≤ 9223372036854775807
  blocks : ∀ x ∈ vs, x.blocks.length ≤ 9223372036854775807
end Go.Proofs.Ytccllgpaafgjaaa
/- Rows of changes: how they read in memory, rows of one's own. -/



namespace Go.Proofs.Ytccllgpaafgjaaa
open Go.RowKit Go.Proofs.YtccllgpaafgjaaaW.PrintWords
set_option linter.unusedVariables false
set_option linter.unusedSimpArgs false

def kOp : Kd Op := Kd.iso (Kd.pair kInt (Kd.pair Kd.string (Kd.pair Kd.string (Kd.pair kInt Kd.string)))) (fun x : Op => (x.kind, x.name, x.dest, x.n, x.text))
def encO (x : Op) : List Value := [.int .i64 x.kind, .string x.name, .string x.dest, .int .i64 x.n, .string x.text]
theorem encO_len (x : Op) : (encO x).length = 5 := rfl
theorem kOp_open {w : World} {x : Op} {cs : List Value} (h : kOp.K w x cs) : cs = encO x := by
  obtain ⟨_, _, rfl, rfl, ⟨_, _, rfl, rfl, ⟨_, _, rfl, rfl, ⟨_, _, rfl, rfl, rfl⟩⟩⟩⟩ := h
  rfl
theorem kOp_mk (w : World) (x : Op) : kOp.K w x (encO x) := ⟨[.int .i64 x.kind], _, rfl, rfl, ⟨[.string x.name], _, rfl, rfl, ⟨[.string x.dest], _, rfl, rfl, ⟨[.int .i64 x.n], [.string x.text], rfl, rfl, rfl⟩⟩⟩⟩
theorem at_op {w : World} {A : Option Addr} {n : Nat} {xs : List Op} (h : Kd.C kOp w A n xs) {i : Nat} {x : Op} (hx : xs[i]? = some x) : ∃ ad, A = some ad ∧ w.cell? (ad.add (i * 5)) = some (.int .i64 x.kind) ∧ w.cell? ⟨(ad.add (i * 5)).block, (ad.add (i * 5)).off + 1, none⟩ = some (.string x.name) ∧ w.cell? ⟨(ad.add (i * 5)).block, (ad.add (i * 5)).off + 2, none⟩ = some (.string x.dest) ∧ w.cell? ⟨(ad.add (i * 5)).block, (ad.add (i * 5)).off + 3, none⟩ = some (.int .i64 x.n) ∧ w.cell? ⟨(ad.add (i * 5)).block, (ad.add (i * 5)).off + 4, none⟩ = some (.string x.text) := by
  have hl := h.1 ▸ ltQ hx
  obtain ⟨ad, c, e, _, hK, hc0⟩ := Kd.C_get h Op.z i (by omega) (by omega)
  have hc : ∀ j u, c[j]? = some u → w.cell? (ad.add (i * 5 + j)) = some u := hc0
  have he : xs.getD (i : Int).toNat Op.z = x := by rw [List.getD_eq_getElem?_getD, Int.toNat_natCast, hx]; rfl
  rw [he] at hK
  obtain rfl := kOp_open hK
  exact ⟨ad, e, hc 0 _ rfl, by rw [← add_field _ _ 1 (by omega)]; exact hc 1 _ rfl, by rw [← add_field _ _ 2 (by omega)]; exact hc 2 _ rfl, by rw [← add_field _ _ 3 (by omega)]; exact hc 3 _ rfl, by rw [← add_field _ _ 4 (by omega)]; exact hc 4 _ rfl⟩
/-- A row of changes of one's own. -/
def OwnO (w : World) (base : Nat) (v : Value) (s : List Op) : Prop := w.ownsRow base 61 5 v s.length (s.flatMap encO)
theorem OwnO.reads {w : World} {base : Nat} {v : Value} {s : List Op} (h : OwnO w base v s) : ∃ A c, v = .slice A s.length c ∧ s.length ≤ c ∧ kOp.C w A s.length s := by
  obtain ⟨A, c, e, hr⟩ := own_reads_row h (reps_flat encO_len s fun x _ => kOp_mk w x) rfl
  obtain ⟨A', c', e', hc⟩ := own_cap h
  rw [e] at e'
  injection e' with _ _ e3
  exact ⟨A, c, e, e3 ▸ hc, hr⟩
theorem OwnO.bel {w w' : World} {base : Nat} {v : Value} {s : List Op} (h : OwnO w base v s) (hb : Bel w w') : OwnO w' base v s := pw_own_below h hb
theorem OwnO.kept {w w' : World} {base : Nat} {v : Value} {s : List Op} {r : Option Nat} (h : OwnO w base v s) (hg : w.grownBy w' r) (hne : v.ownBlock = none ∨ v.ownBlock ≠ r) : OwnO w' base v s := World.ownsRow.kept h hg hne
/-- What a maker of changes leaves. -/
def MadeO (w : World) (s : List Op) (e : Ending) (w' : World) : Prop := ∃ v, e = .returned v ∧ OwnO w' w.heap.size v s ∧ Bel w w'
/-- Element m of a row of one's own: its cells. -/
theorem OwnO.at {w : World} {base : Nat} {v : Value} {s : List Op} (h : OwnO w base v s) {m : Nat} {x : Op} (hx : s[m]? = some x) :
    ∃ g cap, v = .slice (some ⟨g, 0, none⟩) s.length cap ∧ base ≤ g ∧ g < w.heap.size ∧ s.length ≤ cap ∧ (∀ j, j < 5 → w.cell? ⟨g, m * 5 + j, none⟩ = (encO x)[j]?) ∧ ∀ j, w.frozen? ⟨g, j, none⟩ = false := by
  have hm := ltQ hx
  obtain ⟨g, cap, rfl, hb, hg, hc⟩ := own_form h (by omega)
  exact ⟨g, cap, rfl, hb, hg, hc, fun j hj => by rw [World.ownsRow.cellAt h _ (by omega), flat_get encO_len hx hj], fun j => World.ownsRow.frozenAt h j⟩
theorem OwnO.set {w : World} {base g cap : Nat} {s : List Op} (h : OwnO w base (.slice (some ⟨g, 0, none⟩) s.length cap) s) {m j : Nat} {x y : Op} {u : Value} (hx : s[m]? = some x) (hj : j < 5) (he : encO y = (encO x).set j u) :
    OwnO (w.setCell ⟨g, m * 5 + j, none⟩ u) base (.slice (some ⟨g, 0, none⟩) s.length cap) (s.set m y) ∧ w.grownBy (w.setCell ⟨g, m * 5 + j, none⟩ u) (some g) := by
  have := World.ownsRow.stored h (m * 5 + j) u
  rw [flat_set encO_len (y := y) hx hj he] at this
  unfold OwnO
  rw [List.length_set]
  exact this
structure SmallOs (s : List Op) : Prop where
  len : s.length ≤ 1048576
  op : ∀ x ∈ s, SmallO x
theorem SmallOs.take {s : List Op} (h : SmallOs s) (k : Nat) : SmallOs (s.take k) := ⟨Nat.le_trans (List.length_take_le' _ _) h.len, fun x hx => h.op x (List.mem_of_mem_take hx)⟩
theorem SmallOs.drop {s : List Op} (h : SmallOs s) (k : Nat) : SmallOs (s.drop k) := ⟨by rw [List.length_drop]; exact Nat.le_trans (Nat.sub_le _ _) h.len, fun x hx => h.op x (List.mem_of_mem_drop hx)⟩

structure Node where
  up : Bool
  term : Int
  leads : Bool
  alone : Bool
  ops : List Op
def noN : Node := ⟨false, 0, false, false, []⟩
def kNode : Kd Node := Kd.iso (Kd.pair Kd.bool (Kd.pair kInt (Kd.pair Kd.bool (Kd.pair Kd.bool (Kd.slice 61 kOp))))) (fun x : Node => (x.up, x.term, x.leads, x.alone, x.ops))
end Go.Proofs.Ytccllgpaafgjaaa
/- markText: the letter m and a number's figures. -/

namespace Go.Proofs.Ytccllgpaafgjaaa
open Go.RowKit Go.Proofs.YtccllgpaafgjaaaW.PrintWords
set_option linter.unusedVariables false
set_option linter.unusedSimpArgs false

def digN (n : Nat) : List UInt8 := if h : n = 0 then [] else digN (n / 10) ++ [UInt8.ofNat (48 + n % 10)]
termination_by n
decreasing_by omega
def mkT (k : Int) : ByteArray := ⟨(109 :: digN k.toNat).toArray⟩
set_option maxHeartbeats 2000000 in
set_option maxRecDepth 100000 in
theorem markText_c (k : Int) (w : World) (h0 : 0 < k) (h1 : k ≤ 4611686018427387904) : Calls Try.prog 80 #[.int .i64 k] w (Ret (.string (mkT k)) w) := by
  obtain ⟨n, rfl⟩ : ∃ n : Nat, k = n := ⟨k.toNat, by omega⟩
  have h0' : ¬ ((n : Int) ≤ 0) := by omega
  have hn1 : n ≤ 4611686018427387904 := by omega
  go_enter Try.func80, Try.ntmps80
  go_wp2
  go_loopg [0, 3] n (fun g v0 v3 W => ∃ (j : Nat) (out : ByteArray), j = g ∧ out.size + j ≤ n ∧ v0 = .int .i64 j ∧ v3 = .string out ∧ Hid (digN n = digN j ++ out.data.toList) ∧ Bel w W)
  case atStart => exact ⟨n, ⟨#[]⟩, rfl, by simp [ByteArray.size], rfl, rfl, by simp [Hid], Below.refl _ _⟩
  case round =>
    obtain ⟨j, out, hj, hg, rfl, rfl, hd, hW⟩ := hrel
    subst hj
    have hs1 : (strOfNums [48 + (j : Int) % 10]).size = 1 := rfl
    by_cases hlt : 0 < j
    · have hcv : (convert 31 9 (.slice (some ⟨wr.heap.size, 0, none⟩) 1 1)).run Try.prog (wr.alloc (.cells #[.int .u8 (48 + (j : Int) % 10)] 5)) = .ok (.string (strOfNums [48 + (j : Int) % 10])) (wr.alloc (.cells #[.int .u8 (48 + (j : Int) % 10)] 5)) :=
        run_convert_bytes_arg _ 31 5 Try.underlying31 Try.underlying5 wr.heap.size 0 1 1 [48 + (j : Int) % 10] rfl (fun i hi => by
          obtain rfl : i = 0 := by omega
          simp) 9 Try.underlying9
      have hdj : digN j = digN (j / 10) ++ [UInt8.ofNat (48 + j % 10)] := by conv => lhs; unfold digN; rw [dif_neg (by omega)]
      have HD := Lib.hid (show digN n = digN (j / 10) ++ (strOfNums [48 + (j : Int) % 10] ++ out).data.toList by
        rw [hd.out, hdj, List.append_assoc]
        congr 1)
      clear hdj
      go_wp2
      go_roundg (j / 10)
      case measure => omega
      case rel => exact ⟨j / 10, _, rfl, by rw [ByteArray.size_append, hs1]; omega, by go_num, rfl, HD, hW.tr (bel_alloc (Below.refl _ _) _)⟩
    · have hj0 : j = 0 := by omega
      have HD := Lib.hid (show mkT n = ⟨#[109]⟩ ++ out by
        have h5 := hd.out
        rw [hj0, show digN 0 = [] by unfold digN; rfl, List.nil_append] at h5
        unfold mkT
        rw [Int.toNat_natCast, h5]
        apply ByteArray.ext
        apply Array.ext'
        simp)
      go_wp2
      go_ret
      rw [HD.out]
      exact ⟨rfl, hW⟩
end Go.Proofs.Ytccllgpaafgjaaa
/- heldIntS, heldSlotS, heldVolS, heldPool at values that hold the marks. -/

namespace Go.Proofs.Ytccllgpaafgjaaa
open Go.RowKit Go.Proofs.YtccllgpaafgjaaaW.PrintWords
set_option linter.unusedVariables false
set_option linter.unusedSimpArgs false

def MkI (k : Int) (xs : List Int) : Prop := ∀ (i : Nat) (x : Int), xs[i]? = some x → x = k + i
def MkS (k : Int) (s : List Slot) : Prop := ∀ (i : Nat) (x : Slot), s[i]? = some x → x.text = mkT (k + 2 * i) ∧ x.uses = k + 2 * i + 1
def nxV (k : Int) : List Vol → Int
  | [] => k
  | v :: vs => nxV (k + 1 + v.blocks.length) vs
theorem nxV_le {vs : List Vol} (h : ∀ v ∈ vs, v.blocks.length ≤ 1048576) (k : Int) : k ≤ nxV k vs ∧ nxV k vs ≤ k + vs.length * 1048577 := by
  induction vs generalizing k with
  | nil => simp [nxV]
  | cons a vs ih =>
    have h1 := ih (fun v hv => h v (List.mem_cons_of_mem _ hv)) (k + 1 + a.blocks.length)
    have h2 := h a List.mem_cons_self
    simp only [nxV, List.length_cons]
    omega
def MkV (k : Int) (vs : List Vol) : Prop := ∀ (i : Nat) (v : Vol), vs[i]? = some v → v.name = mkT (nxV k (vs.take i)) ∧ MkI (nxV k (vs.take i) + 1) v.blocks
def nxP (k : Int) (p : Pool) : Int := nxV (k + 2 * p.slots.length) p.vols
structure MkP (k : Int) (p : Pool) : Prop where
  s : MkS k p.slots
  v : MkV (k + 2 * p.slots.length) p.vols
end Go.Proofs.Ytccllgpaafgjaaa
/- markIntS, markSlotS: a row of one's own filled with marks. -/



namespace Go.Proofs.Ytccllgpaafgjaaa
open Go.RowKit Go.Proofs.YtccllgpaafgjaaaW.PrintWords
set_option linter.unusedVariables false
set_option linter.unusedSimpArgs false

theorem OwnI.at {w : World} {base : Nat} {v : Value} {s : List Int} (h : OwnI w base v s) {m : Nat} {x : Int} (hx : s[m]? = some x) :
    ∃ g cap, v = .slice (some ⟨g, 0, none⟩) s.length cap ∧ base ≤ g ∧ g < w.heap.size ∧ s.length ≤ cap ∧ w.cell? ⟨g, m, none⟩ = some (.int .i64 x) ∧ w.frozen? ⟨g, m, none⟩ = false := by
  have hm := ltQ hx
  obtain ⟨g, cap, rfl, hb, hg, hc⟩ := own_form h (by omega)
  refine ⟨g, cap, rfl, hb, hg, hc, ?_, World.ownsRow.frozenAt h _⟩
  rw [World.ownsRow.cellAt h _ (by omega), show m = m * 1 + 0 by omega, flat_get encI_len hx (by omega)]; rfl
theorem OwnI.set {w : World} {base g cap : Nat} {s : List Int} (h : OwnI w base (.slice (some ⟨g, 0, none⟩) s.length cap) s) {m : Nat} {x : Int} (hx : s[m]? = some x) (u : Int) :
    OwnI (w.setCell ⟨g, m, none⟩ (.int .i64 u)) base (.slice (some ⟨g, 0, none⟩) s.length cap) (s.set m u) ∧ w.grownBy (w.setCell ⟨g, m, none⟩ (.int .i64 u)) (some g) := by
  have := World.ownsRow.stored h (m * 1 + 0) (.int .i64 u)
  rw [flat_set encI_len (y := u) hx (by omega) rfl, show m * 1 + 0 = m by omega] at this
  unfold OwnI
  rw [List.length_set]
  exact this
/-- What a marker of numbers leaves. -/
def MarkedI (k : Int) (w : World) (base : Nat) (v : Value) (n : Nat) (e : Ending) (w' : World) : Prop := e = .returned (.int .i64 (k + n)) ∧ (∃ s, s.length = n ∧ OwnI w' base v s ∧ MkI k s) ∧ w.grownBy w' v.ownBlock
/-- What a marker of slots leaves. -/
def MarkedS (k : Int) (w : World) (base : Nat) (v : Value) (n : Nat) (e : Ending) (w' : World) : Prop := e = .returned (.int .i64 (k + 2 * n)) ∧ (∃ s, s.length = n ∧ OwnS w' base v s ∧ MkS k s) ∧ w.grownBy w' v.ownBlock
end Go.Proofs.Ytccllgpaafgjaaa
/- New pools; copies of volumes and pools. -/

namespace Go.Proofs.Ytccllgpaafgjaaa
open Go.RowKit Go.Proofs.YtccllgpaafgjaaaW.PrintWords
set_option linter.unusedVariables false
set_option linter.unusedSimpArgs false

theorem Blk.nw2 (w : World) (o : Obj) (cs : Array Value) (t : TypeId) : Blk ((w.alloc o).alloc (.cells cs t)) (w.heap.size + 1) cs t := by
  have := Blk.new (w.alloc o) cs t
  rwa [show (w.alloc o).heap.size = w.heap.size + 1 by simp] at this
def newS : List Slot := List.replicate 8 Slot.z
def newP : Pool := ⟨newS, []⟩
/-- What a maker of pools leaves. -/
def MadeP (w : World) (p : Pool) (e : Ending) (w' : World) : Prop := ∃ v0 v1 bvs, e = .returned (.agg #[v0, v1]) ∧ OwnP w' w.heap.size v0 v1 p bvs ∧ Bel w w'
theorem OwnV.empty (w : World) (base : Nat) (hb : base ≤ w.heap.size) : OwnV (w.alloc (.cells #[] 90)) base (.slice (some ⟨w.heap.size, 0, none⟩) 0 0) [] [] :=
  ⟨⟨rfl, own_empty w base _ _ hb⟩, fun m x b hx _ => by simp at hx, fun i j b b' k _ hb => by simp at hb⟩
end Go.Proofs.Ytccllgpaafgjaaa
/-
  PRINTED WORDS, second file: A REGION THAT DRAWS ITS ORDER, WALKED BY HAND, where its last store writes what its own loads read ('x.f = append(x.f, f(i))'). Plain theorems; no macro, no elab. A claim may hold it (turn the namespace's name).
  A load may be taken first in every world that meets S; behind the operations of ds nothing is shown; sound because each of ds waits for what is taken (Region.lastB). The kernel checks it.
  By an AI agent of Go's test side, Mon Nov 16 2026. No person has read it.
-/




namespace Go.Proofs.YtccllgpaafgjaaaW.PrintLast

section
variable {P : Program} {ops : Array Oper} {Q : Exit → Act → World → Prop} {md : Region.Mode} {S : World → Prop} {ds : List Nat}

/-- Operation d waits for operation i, by a chain of at most 'fuel' edges. -/
def Region.reachB (md : Region.Mode) (ops : Array Oper) (i : Nat) : Nat → Nat → Bool
  | 0, _ => false
  | fuel + 1, d => match ops[d]? with
    | some o => o.after.any fun e => Region.binds md e && (e.on == i || Region.reachB md ops i fuel e.on)
    | none => false

/-- What is listed is closed under the edges. -/
def Region.closedB (md : Region.Mode) (ops : Array Oper) (listed : Array Bool) : Bool :=
  (List.range ops.size).all fun j => !listed.getD j false || match ops[j]? with
    | some o => o.after.all fun e => !Region.binds md e || listed.getD e.on false
    | none => true

/-- Each of ds that has not come up yet waits for number i. -/
def Region.lastB (md : Region.Mode) (ops : Array Oper) (listed : Array Bool) (ds : List Nat) (i : Nat) : Bool :=
  ds.all fun d => listed.getD d true || Region.reachB md ops i ops.size d

def ListedClosed (md : Region.Mode) (ops : Array Oper) (listed : Array Bool) : Prop :=
  ∀ j oj, ops[j]? = some oj → listed.getD j false = true → ∀ e ∈ oj.after, Region.binds md e = true → listed.getD e.on false = true

theorem ListedClosed.set {listed : Array Bool} {i : Nat} (h : ListedClosed md ops listed) (hi : i ∈ Region.ready md ops listed) : ListedClosed md ops (listed.setIfInBounds i true) := by
  obtain ⟨_, oi, hoi, hall⟩ := mem_ready.1 hi
  intro j oj hj hl e he hb
  by_cases hij : i = j
  · subst hij
    have : oj = oi := Option.some.inj (hj.symm.trans hoi)
    subst this
    exact getD_set_true (hall e he hb)
  · rw [getD_set_ne false hij] at hl
    exact getD_set_true (h j oj hj hl e he hb)

/-- Whatever order is picked from here on, AND 'S' HOLDS BEHIND EVERY OPERATION THAT IS CARRIED OUT, those of ds apart. -/
def wpAnyLast (P : Program) (md : Region.Mode) (ops : Array Oper) (Q : Exit → Act → World → Prop) (S : World → Prop) (ds : List Nat) : Nat → Array Bool → Act → World → Prop
  | 0, listed, a, w => Region.ready md ops listed = [] ∧ Q .normal a w
  | fuel + 1, listed, a, w =>
    (Region.ready md ops listed = [] → Q .normal a w) ∧
    ∀ i ∈ Region.ready md ops listed, wpOp P ops Q i (fun a' w' => (i ∉ ds → S w → S w') ∧ wpAnyLast P md ops Q S ds fuel (listed.setIfInBounds i true) a' w') a w

theorem wpAnyLast_all {rs : List Nat} {fuel : Nat} {listed : Array Bool} {a : Act} {w : World} (hr : Region.ready md ops listed = rs) (hne : rs ≠ [])
    (h : ∀ i ∈ rs, wpOp P ops Q i (fun a' w' => (i ∉ ds → S w → S w') ∧ wpAnyLast P md ops Q S ds fuel (listed.setIfInBounds i true) a' w') a w) : wpAnyLast P md ops Q S ds (fuel + 1) listed a w :=
  ⟨fun h0 => absurd (hr ▸ h0) hne, hr ▸ h⟩

end

section
variable {P : Program} {ops : Array Oper} {Q : Exit → Act → World → Prop} {md : Region.Mode} {S : World → Prop} {ds : List Nat}

def AllReadyL (P : Program) (md : Region.Mode) (ops : Array Oper) (Q : Exit → Act → World → Prop) (S : World → Prop) (ds : List Nat) (fuel : Nat) (listed : Array Bool) (a : Act) (w : World) (rs : List Nat) : Prop :=
  ∀ i ∈ rs, wpOp P ops Q i (fun a' w' => (i ∉ ds → S w → S w') ∧ wpAnyLast P md ops Q S ds fuel (listed.setIfInBounds i true) a' w') a w
theorem AllReadyL.nil {fuel : Nat} {listed : Array Bool} {a : Act} {w : World} : AllReadyL P md ops Q S ds fuel listed a w [] := fun _ h => by cases h
theorem AllReadyL.cons {fuel : Nat} {listed : Array Bool} {a : Act} {w : World} {i : Nat} {o : Oper} {rs : List Nat} (ho : ops[i]? = some o) (hd : i ∉ ds)
    (h : ∀ K' : Act → World → Prop, Shut (∀ a w, S w → (S w → wpAnyLast P md ops Q S ds fuel (listed.setIfInBounds i true) a w) → K' a w) → if Region.wanted o (yielded ops a.tmps) = true then Oper.wp P o a w K' Q else K' (a.put o.dst undef) w)
    (hs : AllReadyL P md ops Q S ds fuel listed a w rs) : AllReadyL P md ops Q S ds fuel listed a w (i :: rs) := fun j hj => by
  rcases List.mem_cons.1 hj with rfl | hj
  · exact wpOp_step ho (fun K' hK => h K' (fun a w hS hW => hK a w ⟨fun _ _ => hS, hW hS⟩))
  · exact hs j hj
theorem wpAnyLast_ready {rs : List Nat} {fuel : Nat} {listed : Array Bool} {a : Act} {w : World} (hr : Region.ready md ops listed = rs) (hne : rs ≠ [])
    (h : AllReadyL P md ops Q S ds fuel listed a w rs) : wpAnyLast P md ops Q S ds (fuel + 1) listed a w := wpAnyLast_all hr hne h
def takeB (md : Region.Mode) (ops : Array Oper) (ds : List Nat) (l l' : Array Bool) (i : Nat) : Bool :=
  Region.noSelect ops && Region.free md ops l i && (Region.ready md ops l).contains i && Region.closedB md ops l && Region.lastB md ops l ds i && (l.setIfInBounds i true == l')
def anyB (md : Region.Mode) (ops : Array Oper) (l l' : Array Bool) (i : Nat) : Bool :=
  Region.noSelect ops && Region.free md ops l i && (Region.ready md ops l).contains i && (l.setIfInBounds i true == l')
def readyB (md : Region.Mode) (ops : Array Oper) (l l' : Array Bool) (i : Nat) : Bool := (Region.ready md ops l == [i]) && (l.setIfInBounds i true == l')
/-- One operation alone may come up now (a call, a build, an append ..): it is run, S is shown behind it. -/
theorem one_ {i : Nat} {N : Option Tmp} {oi : Oper} {fuel : Nat} {l : Array Bool} {a : Act} {w : World} (l' : Array Bool) (hi : ops[i]? = some oi) (hN : oi.dst = N) (hc : readyB md ops l l' i = true) (hd : i ∉ ds)
    (h : ∀ K : Act → World → Prop, Shut (∀ a' w', S w' → (S w' → wpAnyLast P md ops Q S ds fuel l' a' w') → K a' w') → if Region.wanted oi (yielded ops a.tmps) = true then Oper.wp P oi a w K Q else K (a.put N undef) w) :
    wpAnyLast P md ops Q S ds (fuel + 1) l a w := by
  subst hN
  simp only [readyB, Bool.and_eq_true, beq_iff_eq] at hc
  obtain ⟨h1, h2⟩ := hc
  subst h2
  exact wpAnyLast_ready h1 (by simp) (AllReadyL.cons hi hd (fun K hK => h K hK) AllReadyL.nil)
/-! ### Several operations that write or call may come up: each order is walked, what follows is shown once (join_) -/
theorem two_ {i j : Nat} {Ni Nj : Option Tmp} {oi oj : Oper} {fuel : Nat} {l : Array Bool} {a : Act} {w : World} (li lj : Array Bool) (hi : ops[i]? = some oi) (hj : ops[j]? = some oj) (hNi : oi.dst = Ni) (hNj : oj.dst = Nj)
    (hc : (Region.ready md ops l == [i, j] && l.setIfInBounds i true == li && l.setIfInBounds j true == lj) = true) (hdi : i ∉ ds) (hdj : j ∉ ds)
    (h1 : ∀ K : Act → World → Prop, Shut (∀ a' w', S w' → (S w' → wpAnyLast P md ops Q S ds fuel li a' w') → K a' w') → if Region.wanted oi (yielded ops a.tmps) = true then Oper.wp P oi a w K Q else K (a.put Ni undef) w)
    (h2 : ∀ K : Act → World → Prop, Shut (∀ a' w', S w' → (S w' → wpAnyLast P md ops Q S ds fuel lj a' w') → K a' w') → if Region.wanted oj (yielded ops a.tmps) = true then Oper.wp P oj a w K Q else K (a.put Nj undef) w) :
    wpAnyLast P md ops Q S ds (fuel + 1) l a w := by
  subst hNi
  subst hNj
  simp only [Bool.and_eq_true, beq_iff_eq] at hc
  obtain ⟨⟨h3, h4⟩, h5⟩ := hc
  subst h4
  subst h5
  exact wpAnyLast_ready h3 (by simp) (AllReadyL.cons hi hdi (fun K hK => h1 K hK) (AllReadyL.cons hj hdj (fun K hK => h2 K hK) AllReadyL.nil))
theorem three_ {i j k : Nat} {Ni Nj Nk : Option Tmp} {oi oj ok : Oper} {fuel : Nat} {l : Array Bool} {a : Act} {w : World} (li lj lk : Array Bool) (hi : ops[i]? = some oi) (hj : ops[j]? = some oj) (hk : ops[k]? = some ok) (hNi : oi.dst = Ni) (hNj : oj.dst = Nj) (hNk : ok.dst = Nk)
    (hc : (Region.ready md ops l == [i, j, k] && l.setIfInBounds i true == li && l.setIfInBounds j true == lj && l.setIfInBounds k true == lk) = true) (hdi : i ∉ ds) (hdj : j ∉ ds) (hdk : k ∉ ds)
    (h1 : ∀ K : Act → World → Prop, Shut (∀ a' w', S w' → (S w' → wpAnyLast P md ops Q S ds fuel li a' w') → K a' w') → if Region.wanted oi (yielded ops a.tmps) = true then Oper.wp P oi a w K Q else K (a.put Ni undef) w)
    (h2 : ∀ K : Act → World → Prop, Shut (∀ a' w', S w' → (S w' → wpAnyLast P md ops Q S ds fuel lj a' w') → K a' w') → if Region.wanted oj (yielded ops a.tmps) = true then Oper.wp P oj a w K Q else K (a.put Nj undef) w)
    (h3 : ∀ K : Act → World → Prop, Shut (∀ a' w', S w' → (S w' → wpAnyLast P md ops Q S ds fuel lk a' w') → K a' w') → if Region.wanted ok (yielded ops a.tmps) = true then Oper.wp P ok a w K Q else K (a.put Nk undef) w) :
    wpAnyLast P md ops Q S ds (fuel + 1) l a w := by
  subst hNi
  subst hNj
  subst hNk
  simp only [Bool.and_eq_true, beq_iff_eq] at hc
  obtain ⟨⟨⟨h4, h5⟩, h6⟩, h7⟩ := hc
  subst h5
  subst h6
  subst h7
  exact wpAnyLast_ready h4 (by simp) (AllReadyL.cons hi hdi (fun K hK => h1 K hK) (AllReadyL.cons hj hdj (fun K hK => h2 K hK) (AllReadyL.cons hk hdk (fun K hK => h3 K hK) AllReadyL.nil)))
/-- The act with some destinations filled. -/
def putAll : Act → List (Tmp × Value) → Act
  | a, [] => a
  | a, (n, v) :: r => putAll (a.put (some n) v) r
/-- What follows, once: s the values that the orders leave, F what is known of them and of the world. -/
theorem join_ {σ : Type} {fuel : Nat} {l : Array Bool} {a : Act} {w : World} (fuel' : Nat) (l' : Array Bool) (ns : σ → List (Tmp × Value)) (F : σ → World → Prop)
    (hcont : ∀ s w', F s w' → wpAnyLast P md ops Q S ds fuel' l' (putAll a (ns s)) w')
    (h : (∀ s w', F s w' → wpAnyLast P md ops Q S ds fuel' l' (putAll a (ns s)) w') → wpAnyLast P md ops Q S ds fuel l a w) : wpAnyLast P md ops Q S ds fuel l a w := h hcont
end
end Go.Proofs.YtccllgpaafgjaaaW.PrintLast
/- Copies of volumes and pools. -/


namespace Go.Proofs.Ytccllgpaafgjaaa
open Go.RowKit Go.Proofs.YtccllgpaafgjaaaW.PrintWords Go.Proofs.YtccllgpaafgjaaaW.PrintLast
set_option linter.unusedVariables false
set_option linter.unusedSimpArgs false

/-- What a maker of a volume leaves. -/
def MadeV1 (w : World) (v : Vol) (e : Ending) (w' : World) : Prop := ∃ b, e = .returned (.agg #[.string v.name, b]) ∧ OwnI w' w.heap.size b v.blocks ∧ Bel w w'
theorem own_block_lt {w : World} {base : Nat} {e : TypeId} {sz n k : Nat} {v : Value} {xs : List Value} (h : w.ownsRow base e sz v n xs) (hk : v.ownBlock = some k) : k < w.heap.size := by
  obtain ⟨cs, hc⟩ := own_type h hk
  exact (Array.getElem?_eq_some_iff.1 hc).1
theorem own_block_ge {w : World} {base : Nat} {e : TypeId} {sz n k : Nat} {v : Value} {xs : List Value} (h : w.ownsRow base e sz v n xs) (hk : v.ownBlock = some k) : base ≤ k := own_base h k hk
end Go.Proofs.Ytccllgpaafgjaaa
/- The copy that the program itself makes of a pool. -/

namespace Go.Proofs.Ytccllgpaafgjaaa
open Go.RowKit Go.Proofs.YtccllgpaafgjaaaW.PrintWords Go.Proofs.YtccllgpaafgjaaaW.PrintLast
set_option linter.unusedVariables false
set_option linter.unusedSimpArgs false

/-- A row of volumes whose first k have blocks of their own; the others' are those of the world W0. -/
structure HalfV (W0 w : World) (base : Nat) (v : Value) (vs : List Vol) (bvs : List Value) (k : Nat) : Prop where
  row : VRow w base v vs bvs
  inner : ∀ (m : Nat) (x : Vol) (b : Value), m < k → vs[m]? = some x → bvs[m]? = some b → OwnI w base b x.blocks
  apart : ∀ (i j : Nat) (b b' : Value) (q : Nat), i < j → j < k → bvs[i]? = some b → bvs[j]? = some b' → b.ownBlock = some q → b'.ownBlock ≠ some q
  old : ∀ (m : Nat) (x : Vol) (b : Value), k ≤ m → vs[m]? = some x → bvs[m]? = some b → ∃ A c, b = .slice A x.blocks.length c ∧ x.blocks.length ≤ c ∧ kInt.C W0 A x.blocks.length x.blocks
theorem HalfV.bel {W0 w w' : World} {base : Nat} {v : Value} {vs : List Vol} {bvs : List Value} {k : Nat} (h : HalfV W0 w base v vs bvs k) (hb : Bel w w') : HalfV W0 w' base v vs bvs k :=
  ⟨h.row.bel hb, fun m x b hm hx hbb => (h.inner m x b hm hx hbb).bel hb, h.apart, h.old⟩
theorem HalfV.step {W0 w : World} {base g cap k : Nat} {vs : List Vol} {bvs : List Value} {x : Vol} {b : Value} (h : HalfV W0 w base (.slice (some ⟨g, 0, none⟩) vs.length cap) vs bvs k) (hx : vs[k]? = some x) (hb : OwnI w base b x.blocks)
    (hap : ∀ (m : Nat) (b' : Value) (q : Nat), m < k → bvs[m]? = some b' → b'.ownBlock = some q → b.ownBlock ≠ some q) :
    HalfV W0 (w.setCell ⟨g, k * 2 + 1, none⟩ b) base (.slice (some ⟨g, 0, none⟩) vs.length cap) vs (bvs.set k b) (k + 1) := by
  have hs := h.row.setB hx b
  have hgr : w.grownBy (w.setCell ⟨g, k * 2 + 1, none⟩ b) (Value.slice (some ⟨g, 0, none⟩) vs.length cap).ownBlock := hs.2
  have hk : k < bvs.length := by rw [h.row.len]; exact ltQ hx
  refine ⟨hs.1, ?_, ?_, ?_⟩
  · intro m y c hm hy hc
    by_cases hmk : m = k
    · subst hmk
      rw [List.getElem?_set_self hk] at hc
      obtain rfl := Option.some.inj hc
      obtain rfl := Option.some.inj (hx.symm.trans hy)
      exact own_other_type hb h.row.row (by decide) hgr
    · rw [List.getElem?_set_ne (by omega)] at hc
      exact own_other_type (h.inner m y c (by omega) hy hc) h.row.row (by decide) hgr
  · intro i j c c' q hij hj hc hc' hq
    rw [List.getElem?_set_ne (by omega)] at hc
    by_cases hjk : j = k
    · subst hjk
      rw [List.getElem?_set_self hk] at hc'
      obtain rfl := Option.some.inj hc'
      exact hap i c q hij hc hq
    · rw [List.getElem?_set_ne (by omega)] at hc'
      exact h.apart i j c c' q hij (by omega) hc hc' hq
  · intro m y c hm hy hc
    rw [List.getElem?_set_ne (by omega)] at hc
    exact h.old m y c (by omega) hy hc
theorem Blk.apart {w : World} {b c : Nat} {cs : Array Value} {t : TypeId} (h : Blk w b cs t) (hne : c ≠ b) (i : Nat) (u : Value) : Blk (w.setCell ⟨c, i, none⟩ u) b cs t := by
  show (w.setCell ⟨c, i, none⟩ u).heap[b]? = _
  rw [Below.heap_setCell w ⟨c, i, none⟩ u b (fun hh => hne hh.symm)]
  exact h

end Go.Proofs.Ytccllgpaafgjaaa
/- markVolS, markPool: a pool of one's own filled with marks. -/


namespace Go.Proofs.Ytccllgpaafgjaaa
open Go.RowKit Go.Proofs.YtccllgpaafgjaaaW.PrintWords
set_option linter.unusedVariables false
set_option linter.unusedSimpArgs false

/-- Of what was there only the blocks of S may have changed. -/
structure Only (w w' : World) (S : Nat → Prop) : Prop where
  os : w'.os = w.os
  tape : w'.tape = w.tape
  output : w'.output = w.output
  size : w.heap.size ≤ w'.heap.size
  block : ∀ k, k < w.heap.size → ¬ S k → w'.heap[k]? = w.heap[k]?
theorem Only.refl (w : World) (S : Nat → Prop) : Only w w S := ⟨rfl, rfl, rfl, Nat.le_refl _, fun _ _ _ => rfl⟩
theorem Only.trans {a b c : World} {S : Nat → Prop} (h : Only a b S) (k : Only b c S) : Only a c S :=
  ⟨k.os.trans h.os, k.tape.trans h.tape, k.output.trans h.output, Nat.le_trans h.size k.size, fun i hi hS => (k.block i (Nat.lt_of_lt_of_le hi h.size) hS).trans (h.block i hi hS)⟩
theorem Only.mono {w w' : World} {S T : Nat → Prop} (h : Only w w' S) (hS : ∀ k, S k → T k) : Only w w' T := ⟨h.os, h.tape, h.output, h.size, fun k hk hT => h.block k hk fun e => hT (hS k e)⟩
theorem Only.below {w w' : World} {S : Nat → Prop} {b : Nat} (h : Only w w' S) (hb : b ≤ w.heap.size) (hS : ∀ k, S k → b ≤ k) : Below b w w' :=
  ⟨h.os, h.tape, h.output, h.size, fun k hk => h.block k (by omega) fun e => by have := hS k e; omega⟩
/-- The blocks of a row of volumes. -/
def InV (v : Value) (bvs : List Value) (k : Nat) : Prop := v.ownBlock = some k ∨ ∃ b ∈ bvs, b.ownBlock = some k
theorem flat_same {α β} {enc : α → List β} {xs : List α} {m : Nat} {x y : α} (hx : xs[m]? = some x) (he : enc y = enc x) : (xs.set m y).flatMap enc = xs.flatMap enc := by
  induction xs generalizing m with
  | nil => simp at hx
  | cons a xs ih =>
    cases m with
    | zero => simp at hx; subst hx; simp [he]
    | succ m => simp at hx; simp [ih hx]
/-- What a marker of volumes leaves. -/
def MarkedV (k : Int) (w : World) (base : Nat) (v : Value) (vs : List Vol) (bvs : List Value) (e : Ending) (w' : World) : Prop :=
  e = .returned (.int .i64 (nxV k vs)) ∧ (∃ vs', vs'.map (fun x => x.blocks.length) = vs.map (fun x => x.blocks.length) ∧ OwnV w' base v vs' bvs ∧ MkV k vs') ∧ Only w w' (InV v bvs)
end Go.Proofs.Ytccllgpaafgjaaa
/-! ### 40. Elements whose inner rows lie apart: what is stored into one says nothing of the others.
   S: as R, with an owner function f (block to element's index). H: as S with a hole: of element i its cells alone are told, its blocks are oki. -/
namespace Go.Proofs.YtccllgpaafgjaaaW.PrintWords
open Go.RowKit
namespace Kd
/-- An element with its index: its blocks are those that f gives to it. -/
def tag {α : Type} (f : Nat → Nat) (d : Kd α) : Kd (α × Nat) where
  sz := d.sz
  E := d.E
  K := fun w x cs => d.K w x.1 cs
  M := fun w base ok x cs => d.M w base (fun k => ok k ∧ f k = x.2) x.1 cs
  K_len := fun h => d.K_len h
  K_one := fun h => d.K_one h
  K_below := fun hb h => d.K_below hb h
  K_of_M := fun h => d.K_of_M h
  M_mono := fun hok h => d.M_mono (fun k hk => ⟨hok k hk.1, hk.2⟩) h
  M_bound := fun h => d.M_mono (fun _ hk => ⟨⟨hk.1.1, hk.2⟩, hk.1.2⟩) (d.M_bound h)
  M_move := fun hm h => d.M_move (fun k hk => hm k hk.1) h
  M_lower := fun hb h => d.M_lower hb h
/-- Nothing but its cells: no block is said of it. -/
def bare {α : Type} (d : Kd α) : Kd α where
  sz := d.sz
  E := d.E
  K := d.K
  M := fun w base _ x cs => d.M w base (fun _ => False) x cs
  K_len := fun h => d.K_len h
  K_one := fun h => d.K_one h
  K_below := fun hb h => d.K_below hb h
  K_of_M := fun h => d.K_of_M h
  M_mono := fun _ h => h
  M_bound := fun h => h
  M_move := fun _ h => d.M_move (fun _ hk => hk.elim) h
  M_lower := fun hb h => d.M_lower hb h
/-- The cells themselves. -/
def raw (sz : Nat) : Kd (List Value) where
  sz := sz
  E := []
  K := fun _ x cs => cs = x ∧ cs.length = sz ∧ ∀ u ∈ cs, u.oneCell' = true
  M := fun _ _ _ x cs => cs = x ∧ cs.length = sz ∧ ∀ u ∈ cs, u.oneCell' = true
  K_len := fun h => h.2.1
  K_one := fun h => h.2.2
  K_below := fun _ h => h
  K_of_M := fun h => h
  M_mono := fun _ h => h
  M_bound := fun h => h
  M_move := fun _ h => h
  M_lower := fun _ h => h
/-- A row of elements (type e) of the call's own, no two of which lead to one block. -/
def S {α : Type} (d : Kd α) (e : Nat) (w : World) (base : Nat) (ok : Nat → Prop) (v : Value) (xs : List α) : Prop := ∃ f, (tag f d).R e w base ok v xs.zipIdx
section
variable {α β : Type} {d : Kd α} {d' : Kd β} {e e' : Nat} {w w1 W : World} {base b : Nat} {ok ok' okv oku : Nat → Prop} {u v : Value} {xs : List α} {ys : List β}
end
section
variable {α β : Type} {d : Kd α} {d' : Kd β} {e e' g : Nat} {w w1 W : World} {base b : Nat} {ok ok' okv oku : Nat → Prop} {u v : Value} {xs : List α} {ys : List β}
end
/-! #### append, make, literals: the new element's blocks are none of the elder ones' -/
section
open Classical in
variable {P : Program} {ops : Array Oper} {rest : List Oper} {o : Oper} {a : Act} {Q : Exit → Act → World → Prop} {Kc : Act → World → Prop} {α : Type}
end
/-! #### a row with a hole: element i is lent, its blocks are oki; of it the row says its cells alone -/
/-- Element i is these cells; the others are d's. -/
def gap {α : Type} (f : Nat → Nat) (d : Kd α) (i : Nat) (c : List Value) : Kd (α × Nat) where
  sz := d.sz
  E := d.E
  K := fun w x cs => (x.2 = i → cs = c ∧ cs.length = d.sz ∧ ∀ u ∈ cs, u.oneCell' = true) ∧ (x.2 ≠ i → d.K w x.1 cs)
  M := fun w base ok x cs => (x.2 = i → cs = c ∧ cs.length = d.sz ∧ ∀ u ∈ cs, u.oneCell' = true) ∧ (x.2 ≠ i → d.M w base (fun k => ok k ∧ f k = x.2) x.1 cs)
  K_len := fun {w x cs} h => by
    by_cases hx : x.2 = i
    · exact (h.1 hx).2.1
    · exact d.K_len (h.2 hx)
  K_one := fun {w x cs} h => by
    by_cases hx : x.2 = i
    · exact (h.1 hx).2.2
    · exact d.K_one (h.2 hx)
  K_below := fun hb h => ⟨h.1, fun hx => d.K_below hb (h.2 hx)⟩
  K_of_M := fun h => ⟨h.1, fun hx => d.K_of_M (h.2 hx)⟩
  M_mono := fun hok h => ⟨h.1, fun hx => d.M_mono (fun k hk => ⟨hok k hk.1, hk.2⟩) (h.2 hx)⟩
  M_bound := fun h => ⟨h.1, fun hx => d.M_mono (fun _ hk => ⟨⟨hk.1.1, hk.2⟩, hk.1.2⟩) (d.M_bound (h.2 hx))⟩
  M_move := fun hm h => ⟨h.1, fun hx => d.M_move (fun k hk => hm k hk.1) (h.2 hx)⟩
  M_lower := fun hb h => ⟨h.1, fun hx => d.M_lower hb (h.2 hx)⟩
def H {α : Type} (d : Kd α) (e : Nat) (w : World) (base : Nat) (ok : Nat → Prop) (v : Value) (xs : List α) (i : Int) (oki : Nat → Prop) (c : List Value) : Prop :=
  (∀ k, oki k → ok k) ∧ ∃ f, (gap f d i.toNat c).R e w base (fun k => ok k ∧ ¬ oki k) v xs.zipIdx
section
variable {α β : Type} {d : Kd α} {e e' g n cap : Nat} {w w1 W : World} {base : Nat} {ok ok' oki okp : Nat → Prop} {u v : Value} {xs : List α} {i : Int} {c : List Value}
open Classical in
end
section
variable {P : Program} {ops : Array Oper} {rest : List Oper} {o : Oper} {a : Act} {Q : Exit → Act → World → Prop} {α : Type}
end
end Kd
end Go.Proofs.YtccllgpaafgjaaaW.PrintWords
/- Rows that are copied over, cleared, shifted: what the cells hold behind it. -/









namespace Go.Proofs.Ytccllgpaafgjaaa
open Go.RowKit Go.Proofs.YtccllgpaafgjaaaW.PrintWords
set_option linter.unusedVariables false
set_option linter.unusedSimpArgs false

/-- vs laid over L from place o on. -/
def layL (L : List Value) (o : Nat) (vs : List Value) : List Value := L.take o ++ (vs ++ L.drop (o + vs.length))
theorem grown_setCell (w : World) (b i : Nat) (u : Value) : w.grownBy (w.setCell ⟨b, i, none⟩ u) (some b) :=
  ⟨rfl, rfl, rfl, by simp [World.setCell], fun k hk hne => Below.heap_setCell w ⟨b, i, none⟩ u k (fun e => hne (by rw [e]))⟩
theorem cell_of_row {w : World} {g : Nat} {cs : List Value} {e : TypeId} (hg : w.heap[g]? = some (.cells cs.toArray e (0, 0))) (k : Nat) : w.cell? ⟨g, k, none⟩ = cs[k]? := by simp [World.cell?, hg]
/-! ### lists of cells -/
end Go.Proofs.Ytccllgpaafgjaaa
/- Taking a volume out of a row. -/

namespace Go.Proofs.Ytccllgpaafgjaaa
open Go.RowKit Go.Proofs.YtccllgpaafgjaaaW.PrintWords Go.Proofs.YtccllgpaafgjaaaW.PrintLast
set_option linter.unusedVariables false
set_option linter.unusedSimpArgs false

/-- What a row of volumes is behind the deletion of one. -/
def Gone1 (w : World) (base g cap : Nat) (vs : List Vol) (bvs : List Value) (i : Nat) (e : Ending) (w' : World) : Prop :=
  e = .returned (.slice (some ⟨g, 0, none⟩) (vs.length - 1) cap) ∧ VRow w' base (.slice (some ⟨g, 0, none⟩) (vs.length - 1) cap) (vs.eraseIdx i) (bvs.eraseIdx i) ∧ w.grownBy w' (some g)
end Go.Proofs.Ytccllgpaafgjaaa
/- Putting a volume into a row. -/

namespace Go.Proofs.Ytccllgpaafgjaaa
open Go.RowKit Go.Proofs.YtccllgpaafgjaaaW.PrintWords Go.Proofs.YtccllgpaafgjaaaW.PrintLast
set_option linter.unusedVariables false
set_option linter.unusedSimpArgs false

def insAt {α} (i : Nat) (x : α) (xs : List α) : List α := xs.take i ++ x :: xs.drop i
/-- What a row of volumes is behind the insertion of one. -/
def Ins1 (w : World) (base : Nat) (v : Value) (vs : List Vol) (bvs : List Value) (i : Nat) (x : Vol) (b : Value) (e : Ending) (w' : World) : Prop :=
  ∃ v', e = .returned v' ∧ VRow w' base v' (insAt i x vs) (insAt i b bvs) ∧ w.grownBy w' v.ownBlock
end Go.Proofs.Ytccllgpaafgjaaa
/- Putting a volume into a row that has no room: a new row. -/

namespace Go.Proofs.Ytccllgpaafgjaaa
open Go.RowKit Go.Proofs.YtccllgpaafgjaaaW.PrintWords Go.Proofs.YtccllgpaafgjaaaW.PrintLast
set_option linter.unusedVariables false
set_option linter.unusedSimpArgs false

end Go.Proofs.Ytccllgpaafgjaaa
/- Comparing strings; searching a sorted row of volumes. -/

namespace Go.Proofs.Ytccllgpaafgjaaa
open Go.RowKit Go.Proofs.YtccllgpaafgjaaaW.PrintWords Go.Proofs.YtccllgpaafgjaaaW.PrintLast
set_option linter.unusedVariables false
set_option linter.unusedSimpArgs false

def cmpS (a b : ByteArray) : Int := Lib.compareBytes a.data.toList b.data.toList
/-- What a search leaves: the place, and whether it is met there. -/
def Found (q : Nat) (w : World) (e : Ending) (w' : World) : Prop := ∃ f : Bool, e = .returned (.tuple #[.int .i64 q, .bool f]) ∧ Bel w w'
end Go.Proofs.Ytccllgpaafgjaaa
/- A pool that is a variable of one's own; a volume put into it. -/


namespace Go.Proofs.Ytccllgpaafgjaaa
open Go.RowKit Go.Proofs.YtccllgpaafgjaaaW.PrintWords Go.Proofs.YtccllgpaafgjaaaW.PrintLast
set_option linter.unusedVariables false
set_option linter.unusedSimpArgs false

/-- Block b is a variable that holds the pool p; all that p has is of one's own, behind base. -/
structure PV (w : World) (b base : Nat) (p : Pool) : Prop where
  h : ∃ v0 v1 bvs, Blk w b #[v0, v1] 49 ∧ OwnP w base v0 v1 p bvs
  lo : base ≤ b
theorem PV.bel {w w' : World} {b base : Nat} {p : Pool} (h : PV w b base p) (hb : Bel w w') : PV w' b base p := by
  obtain ⟨⟨v0, v1, bvs, h1, h2⟩, h3⟩ := h
  exact ⟨⟨v0, v1, bvs, h1.bel hb, h2.bel hb⟩, h3⟩
/-- A step on such a variable: p becomes q, what lies below base is as it was. -/
def PVStep (b base : Nat) (q : Pool) (r : Value) (w : World) (e : Ending) (w' : World) : Prop := e = .returned r ∧ PV w' b base q ∧ Below base w w'
theorem own_one {w : World} {base : Nat} {e : TypeId} {sz n : Nat} {v : Value} {xs : List Value} (h : w.ownsRow base e sz v n xs) : v.oneCell' = true := by
  obtain ⟨A, c, rfl, _⟩ := own_cap h; rfl
theorem OwnV.one {w : World} {base : Nat} {v : Value} {vs : List Vol} {bvs : List Value} (h : OwnV w base v vs bvs) : ∀ b ∈ bvs, b.oneCell' = true := by
  intro b hb
  obtain ⟨m, hm⟩ := List.getElem?_of_mem hb
  obtain ⟨x, hx⟩ := getQ (show m < vs.length by rw [← h.row.len]; exact ltQ hm)
  exact own_one (h.inner m x b hx hm)
theorem Blk.grown {w w' : World} {b : Nat} {cs : Array Value} {t : TypeId} {r : Option Nat} (h : Blk w b cs t) (hg : w.grownBy w' r) (hne : some b ≠ r) : Blk w' b cs t := (hg.block b (Blk.lt h) hne).trans h
theorem own_blk_ne {w : World} {base : Nat} {e : TypeId} {sz n : Nat} {v : Value} {xs : List Value} (h : w.ownsRow base e sz v n xs) {b : Nat} {cs : Array Value} {t : TypeId} (hB : Blk w b cs t) (hne : e ≠ t) : some b ≠ v.ownBlock := by
  intro hk
  obtain ⟨c2, hc2⟩ := own_type h hk.symm
  rw [show w.heap[b]? = some (.cells cs t (0, 0)) from hB] at hc2
  injection hc2 with hc2
  injection hc2 with _ ht
  exact hne ht.symm
end Go.Proofs.Ytccllgpaafgjaaa
/- toIntS, toSlot, toVol, toSlotS, toVolS, toPool: copies of the laws' own values. -/







namespace Go.Proofs.Ytccllgpaafgjaaa
open Go.RowKit Go.Proofs.YtccllgpaafgjaaaW.PrintWords Go.Proofs.YtccllgpaafgjaaaW.PrintLast
set_option linter.unusedVariables false
set_option linter.unusedSimpArgs false

theorem OwnI.get {w : World} {base g n cap : Nat} {s : List Int} (h : OwnI w base (.slice (some ⟨g, 0, none⟩) n cap) s) (hn : n = s.length) : OwnI w base (.slice (some ⟨g, 0, none⟩) s.length cap) s := hn ▸ h
/-- One volume of one's own stored: its name, its blocks. -/
theorem OwnV.put {w : World} {base g cap : Nat} {vs : List Vol} {bvs : List Value} (h : OwnV w base (.slice (some ⟨g, 0, none⟩) vs.length cap) vs bvs) {m : Nat} {y : Vol} (hy : vs[m]? = some y) (x : Vol) {b : Value} (hb : OwnI w base b x.blocks)
    (hap : ∀ (i : Nat) (b' : Value) (k : Nat), bvs[i]? = some b' → b'.ownBlock = some k → b.ownBlock ≠ some k) :
    OwnV ((w.setCell ⟨g, m * 2, none⟩ (.string x.name)).setCell ⟨g, m * 2 + 1, none⟩ b) base (.slice (some ⟨g, 0, none⟩) vs.length cap) (vs.set m x) (bvs.set m b) ∧ w.grownBy ((w.setCell ⟨g, m * 2, none⟩ (.string x.name)).setCell ⟨g, m * 2 + 1, none⟩ b) (some g) := by
  obtain ⟨h1, g1⟩ := h.row.setN hy x.name
  have hm := ltQ hy
  have hy1 : (vs.set m ⟨x.name, y.blocks⟩)[m]? = some ⟨x.name, y.blocks⟩ := List.getElem?_set_self hm
  have h1' : VRow (w.setCell ⟨g, m * 2, none⟩ (.string x.name)) base (.slice (some ⟨g, 0, none⟩) (vs.set m ⟨x.name, y.blocks⟩).length cap) (vs.set m ⟨x.name, y.blocks⟩) bvs := by rw [List.length_set]; exact h1
  obtain ⟨h2, g2⟩ := h1'.setB hy1 b
  have hbm : m < bvs.length := by rw [h.row.len]; exact hm
  have hg := grown_tr g1 g2
  have hz : ((vs.set m x).zip (bvs.set m b)).flatMap encV = ((vs.set m ⟨x.name, y.blocks⟩).zip (bvs.set m b)).flatMap encV := by
    rw [show vs.set m x = (vs.set m ⟨x.name, y.blocks⟩).set m x by rw [List.set_set], ← zip_setL (List.getElem?_set_self hbm)]
    exact flat_same (zip_get hy1 (List.getElem?_set_self hbm)) rfl
  refine ⟨⟨⟨by rw [List.length_set, List.length_set]; exact h.row.len, ?_⟩, ?_, ?_⟩, hg⟩
  · have h5 := h2.row
    rw [hz, List.length_set]
    rw [List.length_set] at h5
    exact h5
  · intro i z c hz2 hc
    by_cases e : i = m
    · subst e
      rw [List.getElem?_set_self hm] at hz2
      rw [List.getElem?_set_self hbm] at hc
      obtain rfl := Option.some.inj hz2
      obtain rfl := Option.some.inj hc
      exact own_other_type hb h.row.row (by decide) hg
    · rw [List.getElem?_set_ne (fun h => e h.symm)] at hz2 hc
      exact own_other_type (h.inner i z c hz2 hc) h.row.row (by decide) hg
  · intro i j c c' k hij hc hc' hk hk'
    by_cases e : i = m
    · subst e
      rw [List.getElem?_set_self hbm] at hc
      rw [List.getElem?_set_ne hij] at hc'
      obtain rfl := Option.some.inj hc
      exact hap j c' k hc' hk' hk
    · rw [List.getElem?_set_ne (fun h => e h.symm)] at hc
      by_cases e2 : j = m
      · subst e2
        rw [List.getElem?_set_self hbm] at hc'
        obtain rfl := Option.some.inj hc'
        exact hap i c k hc hk hk'
      · rw [List.getElem?_set_ne (fun h => e2 h.symm)] at hc'
        exact h.apart i j c c' k hij hc hc' hk hk'
/-- A row whose elements are all zero. -/
def kZ (Z : List Value) : Kd Unit := Kd.iso (Kd.raw Z.length) (fun _ => Z)
def MadeV (w : World) (vs : List Vol) (e : Ending) (w' : World) : Prop := ∃ v bvs, e = .returned v ∧ OwnV w' w.heap.size v vs bvs ∧ Bel w w'
end Go.Proofs.Ytccllgpaafgjaaa
/- Arguments opened: a pool that came in, as lists. -/








namespace Go.Proofs.Ytccllgpaafgjaaa
open Go.RowKit Go.Proofs.YtccllgpaafgjaaaW.PrintWords Go.Joins Go.ChangeShapes Go.WideShapes Go.Deep
set_option linter.unusedVariables false
set_option linter.unusedSimpArgs false

section
variable {H : Type} {enc : TypeId × Value → H} {P : Program} {w : World} {base : Nat} {spare : Nat → Bool} {held : Bool}
end
section
variable {H : Type} {enc : TypeId × Value → H} {w : World} {base : Nat} {spare : Nat → Bool} {held : Bool}
end
end Go.Proofs.Ytccllgpaafgjaaa
/- A change as an argument: opened, measured, made anew. -/



namespace Go.Proofs.Ytccllgpaafgjaaa
open Go.RowKit Go.Proofs.YtccllgpaafgjaaaW.PrintWords Go.Joins Go.ChangeShapes Go.WideShapes Go.Deep
set_option linter.unusedVariables false
set_option linter.unusedSimpArgs false

section
variable {H : Type} {enc : TypeId × Value → H} {P : Program} {w : World} {base : Nat} {spare : Nat → Bool} {held : Bool}
end
section
variable {H : Type} {enc : TypeId × Value → H} {w : World} {base : Nat} {spare : Nat → Bool} {held : Bool}
/-- Lengths that a memory can bear. -/
structure RawO (o : Op) : Prop where
  name : o.name.size ≤ 9223372036854775807
  dest : o.dest.size ≤ 9223372036854775807
  text : o.text.size ≤ 9223372036854775807
  k0 : -9223372036854775808 ≤ o.kind
  k1 : o.kind ≤ 9223372036854775807
  n0 : -9223372036854775808 ≤ o.n
  n1 : o.n ≤ 9223372036854775807
end
end Go.Proofs.Ytccllgpaafgjaaa
/- markPool. -/

namespace Go.Proofs.Ytccllgpaafgjaaa
open Go.RowKit Go.Proofs.YtccllgpaafgjaaaW.PrintWords
set_option linter.unusedVariables false
set_option linter.unusedSimpArgs false

def InP (v0 v1 : Value) (bvs : List Value) (k : Nat) : Prop := v0.ownBlock = some k ∨ InV v1 bvs k
/-- What a marker of pools leaves. -/
def MarkedP (k : Int) (w : World) (base : Nat) (v0 v1 : Value) (p : Pool) (bvs : List Value) (e : Ending) (w' : World) : Prop :=
  e = .returned (.int .i64 (nxP k p)) ∧ (∃ p', p'.slots.length = p.slots.length ∧ p'.vols.map (fun x => x.blocks.length) = p.vols.map (fun x => x.blocks.length) ∧ OwnP w' base v0 v1 p' bvs ∧ MkP k p') ∧ Only w w' (InP v0 v1 bvs)
theorem own_move2 {w w1 : World} {base : Nat} {e : TypeId} {sz n : Nat} {v : Value} {xs : List Value} (h : w.ownsRow base e sz v n xs) (hm : ∀ k, v.ownBlock = some k → w1.heap[k]? = w.heap[k]?) : w1.ownsRow base e sz v n xs := by
  obtain ⟨h1, h2⟩ := h
  refine ⟨h1, ?_⟩
  rcases h2 with h2 | ⟨g, cap, cur, rfl, hg, hh, r⟩
  · exact .inl h2
  · exact .inr ⟨g, cap, cur, rfl, hg, (hm g (by simp [Value.ownBlock])).trans hh, r⟩
end Go.Proofs.Ytccllgpaafgjaaa
/- eqSlot, eqIntS, eqVol, .., eqPool at two values that read the same: true. -/

namespace Go.Proofs.Ytccllgpaafgjaaa
open Go.RowKit Go.Proofs.YtccllgpaafgjaaaW.PrintWords
set_option linter.unusedVariables false
set_option linter.unusedSimpArgs false

end Go.Proofs.Ytccllgpaafgjaaa
/- What a change of a pool returns. -/


namespace Go.Proofs.Ytccllgpaafgjaaa
open Go.RowKit Go.Proofs.YtccllgpaafgjaaaW.PrintWords Go.Proofs.YtccllgpaafgjaaaW.PrintLast
set_option linter.unusedVariables false
set_option linter.unusedSimpArgs false

/-- A pool of the callee's own, and a bool. -/
def MadePB (w : World) (q : Pool) (ok : Bool) (e : Ending) (w' : World) : Prop := ∃ v0 v1 bvs, e = .returned (.tuple #[.agg #[v0, v1], .bool ok]) ∧ OwnP w' w.heap.size v0 v1 q bvs ∧ Bel w w'
def noP : Pool := ⟨[], []⟩
theorem OwnP.none (w : World) (base : Nat) : OwnP w base (.slice none 0 0) (.slice none 0 0) noP [] := ⟨World.ownsRow_nil _ _ _ _, OwnV.nil _ _⟩
/-- What a closure handed to 'changed' does. -/
def Changes (r : Option Pool) (b base : Nat) (w : World) (e : Ending) (w' : World) : Prop := e = .returned (.bool r.isSome) ∧ (∃ q, PV w' b base q ∧ ∀ q', r = some q' → q = q') ∧ Below base w w'
/-- What 'changed' returns. -/
def chP (p : Pool) (r : Option Pool) : Pool := if poolOk p then r.getD p else noP
def chB (p : Pool) (r : Option Pool) : Bool := poolOk p && r.isSome
end Go.Proofs.Ytccllgpaafgjaaa
/- Plain Lean: valid slots and pools, laid out; a piece less, a piece more. -/


namespace Go.Proofs.Ytccllgpaafgjaaa
open Go.RowKit Go.Proofs.YtccllgpaafgjaaaW.PrintWords
set_option linter.unusedVariables false
set_option linter.unusedSimpArgs false

/-! ### names -/
def nmN (t : ByteArray) : Nat := (t.toList.headD 0).toNat
theorem isNm_one {t : ByteArray} (h : isNm t = true) : ∃ b : UInt8, t.toList = [b] ∧ 65 ≤ b.toNat ∧ b.toNat ≤ 68 := by
  simp [isNm] at h
  rcases h with h | h | h | h <;> exact ⟨_, h, by decide, by decide⟩
theorem nm_bd {a : ByteArray} (h : isNm a = true) : 65 ≤ nmN a ∧ nmN a ≤ 68 := by
  obtain ⟨b, hb, h1, h2⟩ := isNm_one h
  simp [nmN, hb, h1, h2]
def cmpN (a b : ByteArray) : Int := Lib.compareBytes a.data.toList b.data.toList
/-! ### slots -/
structure StoreP (s : List Slot) : Prop where
  len : s.length = 8
  ok : ∀ (m : Nat) (x : Slot), s[m]? = some x → tOk x.text = true ∧ 0 ≤ x.uses ∧ x.uses ≤ 99 ∧ (x.text = e0 ↔ x.uses = 0)
  uniq : ∀ (i j : Nat) (x y : Slot), s[i]? = some x → s[j]? = some y → x.text = y.text → x.text ≠ e0 → i = j
/-- One slot turned. -/
theorem StoreP.set {s : List Slot} (h : StoreP s) {m : Nat} {x y : Slot} (hx : s[m]? = some x) (hy : tOk y.text = true ∧ 0 ≤ y.uses ∧ y.uses ≤ 99 ∧ (y.text = e0 ↔ y.uses = 0))
    (hu : y.text = e0 ∨ y.text = x.text ∨ ∀ (j : Nat) (z : Slot), s[j]? = some z → z.text ≠ y.text) : StoreP (s.set m y) := by
  have hm := ltQ hx
  have get : ∀ (j : Nat) (z : Slot), (s.set m y)[j]? = some z → (j = m ∧ z = y) ∨ (j ≠ m ∧ s[j]? = some z) := by
    intro j z hz
    by_cases e : j = m
    · subst e; rw [List.getElem?_set_self hm] at hz; exact .inl ⟨rfl, (Option.some.inj hz).symm⟩
    · rw [List.getElem?_set_ne (fun h => e h.symm)] at hz; exact .inr ⟨e, hz⟩
  have clash : ∀ (j : Nat) (z : Slot), j ≠ m → s[j]? = some z → z.text = y.text → y.text ≠ e0 → False := by
    intro j z hj hz e hne
    rcases hu with h1 | h1 | h1
    · exact hne h1
    · exact hj (h.uniq j m z x hz hx (e.trans h1) (e ▸ hne))
    · exact h1 j z hz e
  refine ⟨by rw [List.length_set]; exact h.len, ?_, ?_⟩
  · intro j z hz
    rcases get j z hz with ⟨_, rfl⟩ | ⟨_, hz⟩
    · exact hy
    · exact h.ok j z hz
  · intro i j a b ha hb e hne
    rcases get i a ha with ⟨e1, e2⟩ | ⟨hi, ha2⟩ <;> rcases get j b hb with ⟨e3, e4⟩ | ⟨hj, hb2⟩
    · rw [e1, e3]
    · exact (clash j b hj hb2 (by rw [← e, e2]) (by rw [← e2]; exact hne)).elim
    · exact (clash i a hi ha2 (by rw [e, e4]) (by rw [← e4, ← e]; exact hne)).elim
    · exact h.uniq i j a b ha2 hb2 e hne
theorem lessS_uses {x : Slot} (h : 1 ≤ x.uses) : (lessS x).uses = x.uses - 1 := by unfold lessS; split <;> simp <;> omega
theorem lessS_text (x : Slot) : (lessS x).text = x.text ∨ (lessS x).uses = 0 := by unfold lessS; split <;> simp
theorem tOk_e0 : tOk e0 = true := by unfold tOk; rw [toList_nil.2 rfl]; rfl
theorem StoreP.drop {s : List Slot} (h : StoreP s) {m : Nat} {x : Slot} (hx : s[m]? = some x) (h1 : 1 ≤ x.uses) : StoreP (dropS s m) := by
  rw [dropS_eq hx]
  obtain ⟨a, b, c, d⟩ := h.ok m x hx
  refine h.set hx ?_ ?_
  · unfold lessS
    split
    · exact ⟨tOk_e0, by simp, by simp, by simp⟩
    · refine ⟨a, by simp; omega, by simp; omega, ?_⟩
      rw [d]; simp; omega
  · unfold lessS; split <;> simp
/-- A reference more. -/
def incS (s : List Slot) (m : Nat) : List Slot := s.set m ⟨(s.getD m Slot.z).text, (s.getD m Slot.z).uses + 1⟩
/-! ### all references of a row of blocks: less, more -/
def dropAll (s : List Slot) : List Int → List Slot
  | [] => s
  | x :: xs => dropAll (if 0 < x then dropS s (x - 1).toNat else s) xs
def incAll (s : List Slot) : List Int → List Slot
  | [] => s
  | x :: xs => incAll (if 0 < x then incS s (x - 1).toNat else s) xs
theorem dropS_len (s : List Slot) (m : Nat) : (dropS s m).length = s.length := by simp [dropS]
/-- What is dropped is counted. -/
theorem dropAll_get {xs : List Int} : ∀ {s : List Slot}, StoreP s → (∀ x ∈ xs, 0 ≤ x ∧ x ≤ 8) → (∀ (m : Nat) (x : Slot), s[m]? = some x → cnt (m + 1) xs ≤ x.uses) →
    StoreP (dropAll s xs) ∧ ∀ (m : Nat) (x : Slot), s[m]? = some x → ∃ y, (dropAll s xs)[m]? = some y ∧ y.uses = x.uses - cnt (m + 1) xs ∧ (y.text = x.text ∨ y.uses = 0) := by
  induction xs with
  | nil => intro s h _ _; exact ⟨h, fun m x hx => ⟨x, hx, by simp [cnt], .inl rfl⟩⟩
  | cons a xs ih =>
    intro s h hr hc
    have ha := hr a List.mem_cons_self
    have hr' : ∀ x ∈ xs, 0 ≤ x ∧ x ≤ 8 := fun x hx => hr x (List.mem_cons_of_mem _ hx)
    simp only [dropAll]
    by_cases h0 : 0 < a
    · rw [if_pos h0]
      obtain ⟨x0, hx0⟩ := getQ (show (a - 1).toNat < s.length by rw [h.len]; omega)
      have hca := hc _ _ hx0
      simp only [cnt, show (((a - 1).toNat : Nat) : Int) + 1 = a by omega, if_pos] at hca
      have hcn := cnt_le a xs
      have h1 : 1 ≤ x0.uses := by omega
      have hd := h.drop hx0 h1
      have get : ∀ (m : Nat) (x : Slot), s[m]? = some x → ∃ y, (dropS s (a - 1).toNat)[m]? = some y ∧ y.uses = x.uses - (if a = (m : Int) + 1 then 1 else 0) ∧ (y.text = x.text ∨ y.uses = 0) := by
        intro m x hx
        by_cases e : m = (a - 1).toNat
        · subst e
          obtain rfl := Option.some.inj (hx.symm.trans hx0)
          refine ⟨lessS x, by rw [dropS_eq hx, List.getElem?_set_self (ltQ hx)], ?_, lessS_text x⟩
          rw [lessS_uses h1, if_pos (by omega)]
        · refine ⟨x, by unfold dropS; rw [List.getElem?_set_ne (fun h => e h.symm)]; exact hx, ?_, .inl rfl⟩
          rw [if_neg (by omega)]; omega
      obtain ⟨r1, r2⟩ := ih hd hr' (fun m y hy => by
        obtain ⟨x, hx⟩ := getQ (show m < s.length by have := ltQ hy; rwa [dropS_len] at this)
        obtain ⟨y', hy', hu, _⟩ := get m x hx
        obtain rfl := Option.some.inj (hy.symm.trans hy')
        have := hc m x hx
        simp only [cnt] at this
        omega)
      refine ⟨r1, fun m x hx => ?_⟩
      obtain ⟨y, hy, hu, ht⟩ := get m x hx
      obtain ⟨z, hz, hu2, ht2⟩ := r2 m y hy
      refine ⟨z, hz, by simp only [cnt]; omega, ?_⟩
      have hcm := cnt_le ((m : Int) + 1) xs
      have hz0 := ((r1.ok m z hz).2.1)
      rcases ht2 with ht2 | ht2
      · rcases ht with ht | ht
        · exact .inl (ht2.trans ht)
        · exact .inr (by omega)
      · exact .inr ht2
    · rw [if_neg h0]
      obtain ⟨r1, r2⟩ := ih h hr' (fun m x hx => by have := hc m x hx; simp only [cnt] at this; rw [if_neg (by omega)] at this; omega)
      refine ⟨r1, fun m x hx => ?_⟩
      obtain ⟨z, hz, hu2, ht2⟩ := r2 m x hx
      exact ⟨z, hz, by simp only [cnt]; rw [if_neg (by omega)]; omega, ht2⟩
/-! ### where a piece is put -/
theorem textB {a b : ByteArray} : (a.toList == b.toList) = true ↔ a = b := ⟨fun h => str_eq (by simpa using h), fun h => by simp [h]⟩
def goRound (d : Nat) (p : Int) : Int := (p - 1 + d) % 8 + 1
/-- Where a piece is put, and what is there. -/
inductive PutAt (s : List Slot) (t : ByteArray) (r : Int) : Prop where
  | no (h : r = 0)
  | old (m : Nat) (x : Slot) (h : r = (m : Int) + 1) (hx : s[m]? = some x) (ht : x.text = t) (hu : x.uses < 99)
  | fresh (m : Nat) (x : Slot) (h : r = (m : Int) + 1) (hx : s[m]? = some x) (hu : x.uses = 0) (hn : ∀ (j : Nat) (y : Slot), s[j]? = some y → y.text ≠ t)
theorem StoreP.more {s : List Slot} (h : StoreP s) {t : ByteArray} (ht : t ≠ e0) (hk : tOk t = true) {r : Int} (hr : PutAt s t r) : StoreP (moreS s t r) := by
  unfold moreS
  cases hr with
  | no h0 => rw [if_pos h0]; exact h
  | old m x e hx he hu =>
    have hok := h.ok m x hx
    rw [if_neg (by omega), e, show ((m : Int) + 1 - 1).toNat = m by omega, getD_of hx]
    refine h.set hx ⟨hk, by simp; omega, by simp; omega, ?_⟩ (.inr (.inl he.symm))
    constructor
    · intro h5; exact absurd h5 ht
    · intro h5; simp at h5; omega
  | fresh m x e hx hu hn =>
    rw [if_neg (by omega), e, show ((m : Int) + 1 - 1).toNat = m by omega, getD_of hx, hu]
    refine h.set hx ⟨hk, by simp, by simp, ?_⟩ (.inr (.inr hn))
    constructor
    · intro h5; exact absurd h5 ht
    · intro h5; simp at h5
end Go.Proofs.Ytccllgpaafgjaaa
/- Plain Lean: valid pools; what making, writing, cloning, and doing away with a volume make of one. -/


namespace Go.Proofs.Ytccllgpaafgjaaa
open Go.RowKit Go.Proofs.YtccllgpaafgjaaaW.PrintWords
set_option linter.unusedVariables false
set_option linter.unusedSimpArgs false

/-- Volumes by name. -/
def SortV (vs : List Vol) : Prop := ∀ (i j : Nat) (x y : Vol), i < j → vs[i]? = some x → vs[j]? = some y → nmN x.name < nmN y.name
structure VolsP (vs : List Vol) : Prop where
  v : ∀ (m : Nat) (x : Vol), vs[m]? = some x → volOk x = true
  sort : SortV vs
theorem VolsP.nm {vs : List Vol} (h : VolsP vs) {m : Nat} {x : Vol} (hx : vs[m]? = some x) : isNm x.name = true := (volOk_parts (h.v m x hx)).2.1
theorem VolsP.low {vs : List Vol} (h : VolsP vs) : ∀ (m : Nat) (x : Vol), vs[m]? = some x → 65 + m ≤ nmN x.name := by
  intro m
  induction m with
  | zero => intro x hx; exact (nm_bd (h.nm hx)).1
  | succ m ih =>
    intro x hx
    obtain ⟨y, hy⟩ := getQ (show m < vs.length by have := ltQ hx; omega)
    have h1 := ih y hy
    have h2 := h.sort m (m + 1) y x (by omega) hy hx
    omega
theorem VolsP.len {vs : List Vol} (h : VolsP vs) : vs.length ≤ 4 := by
  by_cases hl : vs.length ≤ 4
  · exact hl
  · obtain ⟨x, hx⟩ := getQ (show 4 < vs.length by omega)
    have h1 := h.low 4 x hx
    have h2 := (nm_bd (h.nm hx)).2
    omega
theorem VolsP.uniq {vs : List Vol} (h : VolsP vs) {i j : Nat} {x y : Vol} (hx : vs[i]? = some x) (hy : vs[j]? = some y) (he : x.name = y.name) : i = j := by
  rcases Nat.lt_trichotomy i j with h1 | h1 | h1
  · have := h.sort i j x y h1 hx hy; rw [he] at this; omega
  · exact h1
  · have := h.sort j i y x h1 hy hx; rw [he] at this; omega
structure PoolP (p : Pool) : Prop where
  s : StoreP p.slots
  v : VolsP p.vols
  uses : ∀ (m : Nat) (x : Slot), p.slots[m]? = some x → x.uses = uses (m + 1) p.vols
/-! ### counting -/
theorem uses_erase {p : Int} {vs : List Vol} {x : Vol} {i : Nat} (hx : vs[i]? = some x) : uses p (vs.eraseIdx i) = uses p vs - cnt p x.blocks := by
  induction vs generalizing i with
  | nil => simp at hx
  | cons a vs ih =>
    cases i with
    | zero => simp at hx; subst hx; simp [uses]; omega
    | succ i => simp at hx; simp only [List.eraseIdx_cons_succ, uses, ih hx]; omega
theorem uses_set {p : Int} {vs : List Vol} {x y : Vol} {i : Nat} (hx : vs[i]? = some x) : uses p (vs.set i y) = uses p vs - cnt p x.blocks + cnt p y.blocks := by
  induction vs generalizing i with
  | nil => simp at hx
  | cons a vs ih =>
    cases i with
    | zero => simp at hx; subst hx; simp [uses]; omega
    | succ i => simp at hx; simp only [List.set_cons_succ, uses, ih hx]; omega
theorem cnt_set {p : Int} {bs : List Int} {x y : Int} {i : Nat} (hx : bs[i]? = some x) : cnt p (bs.set i y) = cnt p bs - (if x = p then 1 else 0) + (if y = p then 1 else 0) := by
  induction bs generalizing i with
  | nil => simp at hx
  | cons a bs ih =>
    cases i with
    | zero => simp at hx; subst hx; simp [cnt]; omega
    | succ i => simp at hx; simp only [List.set_cons_succ, cnt, ih hx]; omega
theorem uses_nonneg (p : Int) (vs : List Vol) : 0 ≤ uses p vs := by
  induction vs with
  | nil => simp [uses]
  | cons a vs ih => have := cnt_le p a.blocks; simp only [uses]; omega
theorem uses_mem {p : Int} {vs : List Vol} {x : Vol} {i : Nat} (hx : vs[i]? = some x) : cnt p x.blocks ≤ uses p vs := by
  have h1 := uses_erase (p := p) hx
  have h2 := uses_nonneg p (vs.eraseIdx i)
  omega
theorem cnt_pos {p : Int} {bs : List Int} (h : p ∈ bs) : 1 ≤ cnt p bs := by
  induction bs with
  | nil => simp at h
  | cons a bs ih =>
    have := cnt_le p bs
    simp only [cnt]
    rcases List.mem_cons.1 h with h | h
    · rw [if_pos h.symm]; omega
    · have := ih h; split <;> omega
/-! ### where a name stands -/
def posOf (t : ByteArray) : List Vol → Nat
  | [] => 0
  | v :: vs => if Op.bytesLess t.toList v.name.toList then 0 else posOf t vs + 1
theorem volIdx_no {vs : List Vol} {t : ByteArray} : volIdx vs t < 0 ↔ ∀ (m : Nat) (x : Vol), vs[m]? = some x → x.name ≠ t := by
  have hb := idx_bd (fun v : Vol => v.name.toList == t.toList) vs
  have hv : volIdx vs t = idx (fun v : Vol => v.name.toList == t.toList) vs := rfl
  rw [hv]
  constructor
  · intro h m x hx he
    have : vs.any (fun v : Vol => v.name.toList == t.toList) = true := by rw [List.any_eq_true]; exact ⟨x, List.mem_of_getElem? hx, textB.2 he⟩
    have := hb.2.2.2 this
    omega
  · intro h
    by_cases h0 : 0 ≤ idx (fun v : Vol => v.name.toList == t.toList) vs
    · obtain ⟨x, hx, hf⟩ := idx_get h0
      exact absurd (textB.1 hf) (h _ x hx)
    · omega
theorem volIdx_yes {vs : List Vol} {t : ByteArray} (h : ¬ volIdx vs t < 0) : ∃ (m : Nat) (x : Vol), volIdx vs t = m ∧ vs[m]? = some x ∧ x.name = t := by
  have h0 : 0 ≤ idx (fun v : Vol => v.name.toList == t.toList) vs := by have : volIdx vs t = idx (fun v : Vol => v.name.toList == t.toList) vs := rfl; omega
  obtain ⟨x, hx, hf⟩ := idx_get h0
  exact ⟨_, x, (Int.toNat_of_nonneg h0).symm, hx, textB.1 hf⟩
theorem VolsP.idx {vs : List Vol} (h : VolsP vs) {m : Nat} {x : Vol} (hx : vs[m]? = some x) : volIdx vs x.name = m := by
  by_cases h0 : volIdx vs x.name < 0
  · exact absurd rfl (volIdx_no.1 h0 m x hx)
  · obtain ⟨k, y, e, hy, hn⟩ := volIdx_yes h0
    rw [e, h.uniq hx hy hn.symm]
theorem VolsP.set {vs : List Vol} (h : VolsP vs) {i : Nat} {x y : Vol} (hx : vs[i]? = some x) (hn : y.name = x.name) (hy : volOk y = true) : VolsP (vs.set i y) := by
  have get : ∀ (m : Nat) (z : Vol), (vs.set i y)[m]? = some z → (m = i ∧ z = y) ∨ (m ≠ i ∧ vs[m]? = some z) := by
    intro m z hz
    by_cases e : m = i
    · subst e; rw [List.getElem?_set_self (ltQ hx)] at hz; exact .inl ⟨rfl, (Option.some.inj hz).symm⟩
    · rw [List.getElem?_set_ne (fun h => e h.symm)] at hz; exact .inr ⟨e, hz⟩
  refine ⟨fun m z hz => ?_, fun a b z u hab hz hu => ?_⟩
  · rcases get m z hz with ⟨_, rfl⟩ | ⟨_, hz⟩
    · exact hy
    · exact h.v _ _ hz
  · rcases get a z hz with ⟨ha, hzy⟩ | ⟨ha, hz⟩ <;> rcases get b u hu with ⟨hb, huy⟩ | ⟨hb, hu⟩
    · omega
    · rw [hzy, hn]; exact h.sort i b x u (by omega) hx hu
    · rw [huy, hn]; exact h.sort a i z x (by omega) hz hx
    · exact h.sort a b z u hab hz hu

/-! ### the four changes -/
def goneF (p : Pool) (name : ByteArray) : Option Pool :=
  if volIdx p.vols name < 0 then none else some ⟨dropAll p.slots (volAt p.vols (volIdx p.vols name)).blocks, p.vols.eraseIdx (volIdx p.vols name).toNat⟩
def makeF (p : Pool) (name : ByteArray) (size : Int) : Option Pool :=
  if isNm name = true ∧ volIdx p.vols name < 0 ∧ inR size 1 6 = true then some ⟨p.slots, insAt (posOf name p.vols) ⟨name, List.replicate size.toNat 0⟩ p.vols⟩ else none
def cloneF (p : Pool) (fr dst : ByteArray) : Option Pool :=
  if 0 ≤ volIdx p.vols fr ∧ isNm dst = true ∧ volIdx p.vols dst < 0 then some ⟨incAll p.slots (volAt p.vols (volIdx p.vols fr)).blocks, insAt (posOf dst p.vols) ⟨dst, (volAt p.vols (volIdx p.vols fr)).blocks⟩ p.vols⟩ else none
def setBlk (vs : List Vol) (i : Nat) (b : Nat) (pl : Int) : List Vol := vs.set i ⟨(vs.getD i Vol.z).name, (vs.getD i Vol.z).blocks.set b pl⟩
/-- The slots behind a block's piece given back. -/
def backS (p : Pool) (name : ByteArray) (b : Int) : List Slot := dropAll p.slots [placeAt p.vols name b]
def writeF (p : Pool) (name : ByteArray) (b : Int) (text : ByteArray) : Option Pool :=
  if 0 ≤ hasBlk p.vols name b ∧ tOk text = true then
    (if text = e0 then some ⟨backS p name b, setBlk p.vols (volIdx p.vols name).toNat b.toNat 0⟩
     else if putAt (backS p name b) text = 0 then none else some ⟨putS (backS p name b) text, setBlk p.vols (volIdx p.vols name).toNat b.toNat (putAt (backS p name b) text)⟩)
  else none
end Go.Proofs.Ytccllgpaafgjaaa
/- A volume done away with: what the program's closure does. -/


namespace Go.Proofs.Ytccllgpaafgjaaa
open Go.RowKit Go.Proofs.YtccllgpaafgjaaaW.PrintWords Go.Proofs.YtccllgpaafgjaaaW.PrintLast
set_option linter.unusedVariables false
set_option linter.unusedSimpArgs false

end Go.Proofs.Ytccllgpaafgjaaa
/- PoolGone, as the program does it. -/

namespace Go.Proofs.Ytccllgpaafgjaaa
open Go.RowKit Go.Proofs.YtccllgpaafgjaaaW.PrintWords Go.Proofs.YtccllgpaafgjaaaW.PrintLast
set_option linter.unusedVariables false
set_option linter.unusedSimpArgs false

theorem Blk.at (w : World) (o : Obj) (cs : Array Value) (t : TypeId) (h : o = .cells cs t (0, 0)) : Blk (w.alloc o) w.heap.size cs t := h ▸ Blk.new w cs t
end Go.Proofs.Ytccllgpaafgjaaa
/- A volume done away with: what the reference does. -/

namespace Go.Proofs.Ytccllgpaafgjaaa
open Go.RowKit Go.Proofs.YtccllgpaafgjaaaW.PrintWords Go.Proofs.YtccllgpaafgjaaaW.PrintLast
set_option linter.unusedVariables false
set_option linter.unusedSimpArgs false

/-- What is kept while a pool of one's own is turned: what lies below base, and every block that holds no part of a pool. -/
structure Fr (base : Nat) (w W : World) : Prop where
  b : Below base w W
  k : ∀ (g : Nat) (cs : Array Value) (t : TypeId), 99 ≠ t → 90 ≠ t → 3 ≠ t → Blk w g cs t → Blk W g cs t
theorem Fr.bel {base : Nat} {w W W' : World} (h : Fr base w W) (hb : Bel W W') (hbase : base ≤ w.heap.size) : Fr base w W' := ⟨h.b.trans (hb.mono (Nat.le_trans hbase h.b.size)), fun g cs t h1 h2 h3 hB => (h.k g cs t h1 h2 h3 hB).bel hb⟩
theorem Fr.set {base : Nat} {w W : World} (h : Fr base w W) {b : Nat} (hb : w.heap.size ≤ b) (hbase : base ≤ w.heap.size) (i : Nat) (u : Value) : Fr base w (W.setCell ⟨b, i, none⟩ u) :=
  ⟨h.b.setCell (p := ⟨b, i, none⟩) (Nat.le_trans hbase hb) u, fun g cs t h1 h2 h3 hB => (h.k g cs t h1 h2 h3 hB).apart (by have := hB.lt; omega) i u⟩
theorem Fr.drew {base : Nat} {w W : World} (h : Fr base w W) : Fr base w W.drew := ⟨h.b.drew, fun g cs t h1 h2 h3 hB => (h.k g cs t h1 h2 h3 hB).bel (Below.refl _ _).drew⟩
theorem Fr.slots {base : Nat} {w W W' : World} (h : Fr base w W) {v : Value} {s : List Slot} (hos : OwnS W base v s) (hg : W.grownBy W' v.ownBlock) (hbase : base ≤ w.heap.size) : Fr base w W' :=
  ⟨h.b.grown hg (Nat.le_trans hbase h.b.size) (own_base hos), fun g cs t h1 h2 h3 hB => (h.k g cs t h1 h2 h3 hB).grown hg (own_blk_ne hos (h.k g cs t h1 h2 h3 hB) h1)⟩
/-- What a change of a pool of one's own leaves: the pool turned, or as it was. -/
def TurnsP (base : Nat) (p : Pool) (r : Option Pool) (w : World) (e : Ending) (w' : World) : Prop := ∃ v0 v1 bvs, e = .returned (.tuple #[.agg #[v0, v1], .bool r.isSome]) ∧ OwnP w' base v0 v1 (r.getD p) bvs ∧ Fr base w w'

end Go.Proofs.Ytccllgpaafgjaaa
/- PoolGone, as the reference does it. -/

namespace Go.Proofs.Ytccllgpaafgjaaa
open Go.RowKit Go.Proofs.YtccllgpaafgjaaaW.PrintWords Go.Proofs.YtccllgpaafgjaaaW.PrintLast
set_option linter.unusedVariables false
set_option linter.unusedSimpArgs false

end Go.Proofs.Ytccllgpaafgjaaa
/- Plain law: the four changes of a pool keep it valid, and what they keep of its slots. -/

namespace Go.Proofs.Ytccllgpaafgjaaa
open Go.RowKit Go.Proofs.YtccllgpaafgjaaaW.PrintWords
set_option linter.unusedVariables false
set_option linter.unusedSimpArgs false

theorem PoolP.slot {p : Pool} (h : PoolP p) {m : Nat} (hm : m < 8) : ∃ x, p.slots[m]? = some x := getQ (by rw [h.s.len]; exact hm)
theorem PoolP.blk {p : Pool} (h : PoolP p) {i : Nat} {v : Vol} (hv : p.vols[i]? = some v) {k : Nat} {x : Int} (hx : v.blocks[k]? = some x) : 0 ≤ x ∧ x ≤ 8 := (volOk_parts (h.v.v i v hv)).1 x (List.mem_of_getElem? hx)
theorem PoolP.drops {p : Pool} (h : PoolP p) {i : Nat} {v : Vol} (hv : p.vols[i]? = some v) {bs : List Int} (hb : ∀ x ∈ bs, 0 ≤ x ∧ x ≤ 8) (hc : ∀ m : Nat, cnt ((m : Int) + 1) bs ≤ cnt (m + 1) v.blocks) :
    StoreP (dropAll p.slots bs) ∧ ∀ (m : Nat) (x : Slot), p.slots[m]? = some x → ∃ y, (dropAll p.slots bs)[m]? = some y ∧ y.uses = x.uses - cnt (m + 1) bs ∧ (y.text = x.text ∨ y.uses = 0) :=
  dropAll_get h.s hb fun m x hx => by rw [h.uses m x hx]; exact Int.le_trans (hc m) (uses_mem hv)
/-! writing -/
theorem cnt_one (p x : Int) : cnt p [x] = if x = p then 1 else 0 := by simp [cnt]
theorem cnt_one_le {p x : Int} {bs : List Int} {k : Nat} (h : bs[k]? = some x) : cnt p [x] ≤ cnt p bs := by
  rw [cnt_one]
  split
  · rename_i e; subst e; exact cnt_pos (List.mem_of_getElem? h)
  · exact (cnt_le p bs).1
/-- What a write has in hand: the volume, its block, the slots behind the piece given back. -/
structure Wr (p : Pool) (name : ByteArray) (b : Int) (i : Nat) (v : Vol) (x : Int) : Prop where
  idx : volIdx p.vols name = i
  has : hasBlk p.vols name b = i
  vol : p.vols[i]? = some v
  nm : v.name = name
  b0 : 0 ≤ b
  blk : v.blocks[b.toNat]? = some x
  place : placeAt p.vols name b = x
theorem Wr.back {p : Pool} {name : ByteArray} {b : Int} {i : Nat} {v : Vol} {x : Int} (hp : PoolP p) (h : Wr p name b i v x) :
    StoreP (backS p name b) ∧ ∀ (m : Nat) (y : Slot), p.slots[m]? = some y → ∃ z, (backS p name b)[m]? = some z ∧ z.uses = y.uses - cnt (m + 1) [x] ∧ (z.text = y.text ∨ z.uses = 0) := by
  unfold backS
  rw [h.place]
  refine hp.drops h.vol (fun y hy => ?_) (fun m => cnt_one_le h.blk)
  rw [List.mem_singleton.1 hy]; exact hp.blk h.vol h.blk
theorem Wr.set {p : Pool} {name : ByteArray} {b : Int} {i : Nat} {v : Vol} {x : Int} (h : Wr p name b i v x) (pl : Int) :
    setBlk p.vols (volIdx p.vols name).toNat b.toNat pl = p.vols.set i ⟨name, v.blocks.set b.toNat pl⟩ := by
  unfold setBlk
  rw [h.idx, Int.toNat_natCast, getD_of h.vol, h.nm]
theorem Wr.uses {p : Pool} {name : ByteArray} {b : Int} {i : Nat} {v : Vol} {x : Int} (h : Wr p name b i v x) (pl q : Int) :
    Go.Proofs.Ytccllgpaafgjaaa.uses q (p.vols.set i ⟨name, v.blocks.set b.toNat pl⟩) = Go.Proofs.Ytccllgpaafgjaaa.uses q p.vols - (if x = q then 1 else 0) + (if pl = q then 1 else 0) := by
  rw [uses_set h.vol, cnt_set h.blk]
  omega
inductive WriteOut (p : Pool) (name : ByteArray) (b : Int) (text : ByteArray) (i : Nat) (v : Vol) (x : Int) : Pool → Prop where
  | free (h : text = e0) : WriteOut p name b text i v x ⟨backS p name b, p.vols.set i ⟨name, v.blocks.set b.toNat 0⟩⟩
  | put (m : Nat) (z : Slot) (h : text ≠ e0) (ht : tOk text = true) (hz : (backS p name b)[m]? = some z) (hpa : PutAt (backS p name b) text ((m : Int) + 1)) (hz2 : z.text = text ∧ z.uses < 99 ∨ z.uses = 0 ∧ ∀ (j : Nat) (y : Slot), (backS p name b)[j]? = some y → y.text ≠ text) :
      WriteOut p name b text i v x ⟨(backS p name b).set m ⟨text, z.uses + 1⟩, p.vols.set i ⟨name, v.blocks.set b.toNat ((m : Int) + 1)⟩⟩
end Go.Proofs.Ytccllgpaafgjaaa
/- Pools that lie in an interval of blocks; marks on one leave the others as they were. -/






namespace Go.Proofs.Ytccllgpaafgjaaa
open Go.RowKit Go.Proofs.YtccllgpaafgjaaaW.PrintWords Go.Proofs.YtccllgpaafgjaaaW.PrintLast
set_option linter.unusedVariables false
set_option linter.unusedSimpArgs false

/-- Only blocks from lo up to hi may have changed. -/
def Within (lo hi : Nat) (w w' : World) : Prop := Only w w' (fun k => lo ≤ k ∧ k < hi)
/-- A pool whose blocks lie from lo up to hi. -/
structure At (w : World) (lo hi : Nat) (v0 v1 : Value) (p : Pool) (bvs : List Value) : Prop where
  own : OwnP w lo v0 v1 p bvs
  lt : ∀ k, InP v0 v1 bvs k → k < hi
theorem OwnP.in_ {w : World} {base : Nat} {v0 v1 : Value} {p : Pool} {bvs : List Value} (h : OwnP w base v0 v1 p bvs) {k : Nat} (hk : InP v0 v1 bvs k) : base ≤ k ∧ k < w.heap.size := by
  rcases hk with hk | hk | ⟨b, hb, hk⟩
  · exact ⟨own_block_ge h.s hk, own_block_lt h.s hk⟩
  · exact ⟨own_block_ge h.v.row.row hk, own_block_lt h.v.row.row hk⟩
  · obtain ⟨m, hm⟩ := List.getElem?_of_mem hb
    obtain ⟨x, hx⟩ := getQ (show m < p.vols.length by rw [← h.v.row.len]; exact ltQ hm)
    exact ⟨own_block_ge (h.v.inner m x b hx hm) hk, own_block_lt (h.v.inner m x b hx hm) hk⟩
theorem OwnP.only {w w' : World} {S : Nat → Prop} {base : Nat} {v0 v1 : Value} {p : Pool} {bvs : List Value} (h : OwnP w base v0 v1 p bvs) (ho : Only w w' S) (hS : ∀ k, InP v0 v1 bvs k → ¬ S k) : OwnP w' base v0 v1 p bvs := by
  have mv : ∀ k, InP v0 v1 bvs k → w'.heap[k]? = w.heap[k]? := fun k hk => ho.block k (h.in_ hk).2 (hS k hk)
  refine ⟨own_move2 h.s fun k hk => mv k (.inl hk), ⟨h.v.row.len, own_move2 h.v.row.row fun k hk => mv k (.inr (.inl hk))⟩, fun m x b hx hb => own_move2 (h.v.inner m x b hx hb) fun k hk => mv k (.inr (.inr ⟨b, List.mem_of_getElem? hb, hk⟩)), h.v.apart⟩
theorem OwnP.at {w : World} {lo : Nat} {v0 v1 : Value} {p : Pool} {bvs : List Value} (h : OwnP w lo v0 v1 p bvs) : At w lo w.heap.size v0 v1 p bvs := ⟨h, fun k hk => (h.in_ hk).2⟩
theorem At.bel {w w' : World} {lo hi : Nat} {v0 v1 : Value} {p : Pool} {bvs : List Value} (h : At w lo hi v0 v1 p bvs) (hb : Bel w w') : At w' lo hi v0 v1 p bvs := ⟨h.own.bel hb, h.lt⟩
theorem At.reads {w : World} {lo hi : Nat} {v0 v1 : Value} {p : Pool} {bvs : List Value} (h : At w lo hi v0 v1 p bvs) : ∃ A0 A1 c0 c1, v0 = .slice A0 p.slots.length c0 ∧ v1 = .slice A1 p.vols.length c1 ∧ PoolIn w A0 A1 c0 c1 p := h.own.reads
theorem Within.below {w w' : World} {lo hi b : Nat} (h : Within lo hi w w') (hb : b ≤ w.heap.size) (hl : b ≤ lo) : Below b w w' := Only.below h hb fun k hk => by omega
theorem Within.size {w w' : World} {lo hi : Nat} (h : Within lo hi w w') : w.heap.size ≤ w'.heap.size := Only.size h

/-! ### marks -/
theorem digN_len (d : Nat) : ∀ n : Nat, n < 10 ^ d → (digN n).length ≤ d := by
  induction d with
  | zero =>
    intro n hn
    obtain rfl : n = 0 := by omega
    unfold digN
    simp
  | succ d ih =>
    intro n hn
    unfold digN
    split
    · simp
    · have := ih (n / 10) (by rw [Nat.pow_succ] at hn; omega)
      rw [List.length_append, List.length_singleton]; omega
theorem mkT_size {k : Int} (h : k ≤ 1000000000000000000) : (mkT k).size ≤ 1048576 := by
  have := digN_len 19 k.toNat (by omega)
  unfold mkT ByteArray.size
  simp
  omega
theorem MkP.small {k : Int} {p q : Pool} (h : MkP k q) (hp : SmallP p) (hl : q.slots.length = p.slots.length) (hv : q.vols.map (fun x => x.blocks.length) = p.vols.map (fun x => x.blocks.length)) (h1 : k ≤ 1099511627776) : SmallP q := by
  have hlv : q.vols.length = p.vols.length := by simpa using congrArg List.length hv
  have hb : ∀ x ∈ q.vols, x.blocks.length ≤ 1048576 := by
    intro x hx
    have : x.blocks.length ∈ p.vols.map (fun x => x.blocks.length) := by rw [← hv]; exact List.mem_map.2 ⟨x, hx, rfl⟩
    obtain ⟨y, hy, e⟩ := List.mem_map.1 this
    rw [← e]; exact hp.vols.blocks y hy
  have h3 := hp.slots.len
  have h4 := hp.vols.len
  refine ⟨⟨by rw [hl]; exact hp.slots.len, fun x hx => ?_⟩, ⟨by rw [hlv]; exact hp.vols.len, hb, fun x hx => ?_⟩⟩
  · obtain ⟨i, hi⟩ := List.getElem?_of_mem hx
    rw [(h.s i x hi).1]
    have := ltQ hi
    exact mkT_size (by omega)
  · obtain ⟨i, hi⟩ := List.getElem?_of_mem hx
    rw [(h.v i x hi).1]
    have h5 := ltQ hi
    have h2 := nxV_le (vs := q.vols.take i) (fun v hv => hb v (List.mem_of_mem_take hv)) (k + 2 * q.slots.length)
    have h6 := List.length_take_le i q.vols
    exact mkT_size (by omega)
/-- What a marker leaves of a pool in its interval. -/
def MarkedA (k : Int) (w : World) (lo hi : Nat) (v0 v1 : Value) (p : Pool) (bvs : List Value) (e : Ending) (w' : World) : Prop :=
  e = .returned (.int .i64 (nxP k p)) ∧ (∃ q, SmallP q ∧ q.slots.length = p.slots.length ∧ q.vols.length = p.vols.length ∧ nxP k q = nxP k p ∧ MkP k q ∧ At w' lo hi v0 v1 q bvs) ∧ Within lo hi w w'
/-! ### what is valid is small -/
theorem tOk_size {t : ByteArray} (h : tOk t = true) : t.size ≤ 4 := by
  unfold tOk at h
  simp at h
  exact h.2
theorem PoolP.small {p : Pool} (h : PoolP p) : SmallP p := by
  refine ⟨⟨by have := h.s.len; omega, fun x hx => ?_⟩, ⟨by have := h.v.len; omega, fun v hv => ?_, fun v hv => ?_⟩⟩
  · obtain ⟨i, hi⟩ := List.getElem?_of_mem hx
    have := tOk_size (h.s.ok i x hi).1
    omega
  · obtain ⟨i, hi⟩ := List.getElem?_of_mem hv
    have := (volOk_parts (h.v.v i v hi)).2.2.2
    omega
  · obtain ⟨i, hi⟩ := List.getElem?_of_mem hv
    obtain ⟨b, hb, _⟩ := isNm_one (h.v.nm hi)
    have : v.name.size = 1 := by rw [← size_toList, hb]; rfl
    omega
end Go.Proofs.Ytccllgpaafgjaaa
/- Rows of changes: eqOpS, heldOpS, markOpS, szOpS, toOpS, slices.Clone. -/




namespace Go.Proofs.Ytccllgpaafgjaaa
open Go.RowKit Go.Proofs.YtccllgpaafgjaaaW.PrintWords
set_option linter.unusedVariables false
set_option linter.unusedSimpArgs false

set_option maxHeartbeats 2000000 in
theorem eqOp_c (x : Op) (w : World) : Calls Try.prog 79 #[.agg #[.int .i64 x.kind, .string x.name, .string x.dest, .int .i64 x.n, .string x.text], .agg #[.int .i64 x.kind, .string x.name, .string x.dest, .int .i64 x.n, .string x.text]] w (Ret (.bool true) w) := by
  have h1 : (x.name.toList == x.name.toList) = true := by simp
  have h2 : (x.dest.toList == x.dest.toList) = true := by simp
  have h3 : (x.text.toList == x.text.toList) = true := by simp
  go_enter Try.func79, Try.ntmps79
  go_wp2
  go_ret
  exact ⟨rfl, bel_alloc (bel_alloc (Below.refl _ _) _) _⟩
set_option maxHeartbeats 4000000 in
theorem eqOpS_c {w : World} {A A' : Option Addr} {c c' : Nat} {xs : List Op} (hC : kOp.C w A xs.length xs) (hC' : kOp.C w A' xs.length xs) (hl : xs.length ≤ 1048576) :
    Calls Try.prog 41 #[.slice A xs.length c, .slice A' xs.length c'] w (Ret (.bool true) w) := by
  have H := Lib.hid hC
  have H' := Lib.hid hC'
  clear hC hC'
  go_enter Try.func41, Try.ntmps41
  go_wp2
  go_loopg [5] xs.length (fun g v W => ∃ k : Nat, g + k = xs.length ∧ v = .int .i64 k ∧ Bel w W)
  case atStart => exact ⟨0, rfl, rfl, Below.refl _ _⟩
  case round =>
    obtain ⟨k, hk, rfl, hW⟩ := hrel
    by_cases hlt : k < xs.length
    · obtain ⟨x, hx⟩ := getQ hlt
      obtain ⟨ad, rfl, a0, a1, a2, a3, a4⟩ := at_op (Kd.C_below H.out hW) hx
      obtain ⟨ad2, rfl, b0, b1, b2, b3, b4⟩ := at_op (Kd.C_below H'.out hW) hx
      have g0 := gb_cell a0
      have g1 := gb_cell a1
      have g2 := gb_cell a2
      have g3 := gb_cell a3
      have g4 := gb_cell a4
      have g5 := gb_cell b0
      have g6 := gb_cell b1
      have g7 := gb_cell b2
      have g8 := gb_cell b3
      have g9 := gb_cell b4
      clear hx a0 a1 a2 a3 a4 b0 b1 b2 b3 b4
      go_wp2
      refine wp_region_gb (by kernel_rfl) (by kernel_rfl) ?_
      repeat (first | go_big_quiet_skip | (go_big_quiet_want; go_big_quiet_op; first | go_big_quiet_on | (apply Exists.intro; refine ⟨fun _ => ?_, ?_⟩; (go_at_call 79; exact gb_call (eqOp_c _ _)); go_big_quiet_on)))
      refine wpQuiet_nil ?_
      rintro _ ⟨⟨w4, hb4⟩, rfl⟩
      go_wp2
      go_roundg (xs.length - (k + 1))
      case measure => omega
      case rel => exact ⟨k + 1, by omega, by go_num, hW.tr hb4⟩
    · go_wp2
      go_ret
      exact ⟨rfl, hW⟩

/-! ### marks -/
def mkO (k : Int) : Op := ⟨k, mkT (k + 1), mkT (k + 1 + 1), k + 1 + 1 + 1, mkT (k + 1 + 1 + 1 + 1)⟩
def MkO (k : Int) (s : List Op) : Prop := ∀ (i : Nat) (x : Op), s[i]? = some x → x = mkO (k + 5 * i)
set_option maxHeartbeats 8000000 in
theorem heldOpS_c {w : World} {A : Option Addr} {c : Nat} {xs : List Op} {k : Int} (hC : kOp.C w A xs.length xs) (hm : MkO k xs) (hl : xs.length ≤ 1048576) (h0 : 0 < k) (h1 : k ≤ 1152921504606846976) :
    Calls Try.prog 47 #[.slice A xs.length c, .int .i64 k] w (Ret (.int .i64 (k + 5 * xs.length)) w) := by
  have H := Lib.hid hC
  have HM := Lib.hid hm
  clear hC hm
  go_enter Try.func47, Try.ntmps47
  go_wp2
  go_loopg [1, 5] xs.length (fun g v1 v W => ∃ j : Nat, g + j = xs.length ∧ v = .int .i64 j ∧ v1 = .int .i64 (k + 5 * j) ∧ Bel w W)
  case atStart => exact ⟨0, rfl, rfl, int_eq (by omega), Below.refl _ _⟩
  case round =>
    obtain ⟨j, hj, rfl, rfl, hW⟩ := hrel
    by_cases hlt : j < xs.length
    · obtain ⟨x, hx⟩ := getQ hlt
      obtain ⟨z, hz⟩ : ∃ z, k + 5 * (j : Int) = z := ⟨_, rfl⟩
      have z0 : 0 < z := by omega
      have z1 : z ≤ 1152921504612089856 := by omega
      obtain rfl : x = mkO z := by rw [← hz]; exact HM.out j x hx
      obtain ⟨ad, rfl, a0, a1, a2, a3, a4⟩ := at_op (Kd.C_below H.out hW) hx
      simp only [mkO] at a0 a1 a2 a3 a4
      have q1 : ((mkT (z + 1)).toList == (mkT (z + 1)).toList) = true := by simp
      have q2 : ((mkT (z + 1 + 1)).toList == (mkT (z + 1 + 1)).toList) = true := by simp
      have q4 : ((mkT (z + 1 + 1 + 1 + 1)).toList == (mkT (z + 1 + 1 + 1 + 1)).toList) = true := by simp
      rw [hz]
      have HX := Lib.hid hx
      have HZ := Lib.hid hz
      have HW := Lib.hid hW
      have g1 := gb_cell a1
      have HMT : Hid (∀ p : GB wr, Calls Try.prog 80 #[.int .i64 (z + 1)] p.W (Ret (.string (mkT (z + 1))) p.W)) := fun p => markText_c _ _ (by omega) (by omega)
      clear hx hz hW a1 a2 a3 a4
      go_wp2
      refine wp_region_gb (by kernel_rfl) (by kernel_rfl) ?_
      repeat (first | go_big_quiet_skip | (go_big_quiet_want; go_big_quiet_op; first | go_big_quiet_on | (apply Exists.intro; refine ⟨fun _ => ?_, ?_⟩; (go_at_call 80; exact gb_call (HMT.out _)); go_big_quiet_on)))
      refine wpQuiet_nil ?_
      rintro w4 ⟨⟨_, hb4⟩, rfl⟩
      replace hb4 : Bel wr w4 := hb4
      clear g1 HMT a0
      obtain ⟨ad', e, a0, a1, a2, a3, a4⟩ := at_op (Kd.C_below H.out (HW.out.tr hb4)) HX.out
      cases e
      simp only [mkO] at a0 a1 a2 a3 a4
      have g2 := gb_cell a2
      have HMT : Hid (∀ p : GB w4, Calls Try.prog 80 #[.int .i64 (z + 1 + 1)] p.W (Ret (.string (mkT (z + 1 + 1))) p.W)) := fun p => markText_c _ _ (by omega) (by omega)
      replace HW := Lib.hid (HW.out.tr hb4)
      clear hb4 a0 a1 a2 a3 a4
      go_wp2
      refine wp_region_gb (by kernel_rfl) (by kernel_rfl) ?_
      repeat (first | go_big_quiet_skip | (go_big_quiet_want; go_big_quiet_op; first | go_big_quiet_on | (apply Exists.intro; refine ⟨fun _ => ?_, ?_⟩; (go_at_call 80; exact gb_call (HMT.out _)); go_big_quiet_on)))
      refine wpQuiet_nil ?_
      rintro w5 ⟨⟨_, hb5⟩, rfl⟩
      replace hb5 : Bel w4 w5 := hb5
      clear g2 HMT
      obtain ⟨ad', e, a0, a1, a2, a3, a4⟩ := at_op (Kd.C_below H.out (HW.out.tr hb5)) HX.out
      cases e
      simp only [mkO] at a0 a1 a2 a3 a4
      have g4 := gb_cell a4
      have HMT : Hid (∀ p : GB w5, Calls Try.prog 80 #[.int .i64 (z + 1 + 1 + 1 + 1)] p.W (Ret (.string (mkT (z + 1 + 1 + 1 + 1))) p.W)) := fun p => markText_c _ _ (by omega) (by omega)
      replace HW := Lib.hid (HW.out.tr hb5)
      clear hb5 a0 a1 a2 a4
      go_wp2
      refine wp_region_gb (by kernel_rfl) (by kernel_rfl) ?_
      repeat (first | go_big_quiet_skip | (go_big_quiet_want; go_big_quiet_op; first | go_big_quiet_on | (apply Exists.intro; refine ⟨fun _ => ?_, ?_⟩; (go_at_call 80; exact gb_call (HMT.out _)); go_big_quiet_on)))
      refine wpQuiet_nil ?_
      rintro w6 ⟨⟨_, hb6⟩, rfl⟩
      replace hb6 : Bel w5 w6 := hb6
      clear g4 HMT
      go_wp2
      go_roundg (xs.length - (j + 1))
      case measure => omega
      case rel => exact ⟨j + 1, by omega, by go_num, int_eq (by have := HZ.out; omega), HW.out.tr hb6⟩
    · have hjl : j = xs.length := by omega
      go_wp2
      go_ret
      exact ⟨ret_int (by omega), hW⟩

theorem OwnO.put {w : World} {base g cap n : Nat} {s : List Op} (h : OwnO w base (.slice (some ⟨g, 0, none⟩) n cap) s) (hn : s.length = n) {m : Nat} (j : Nat) {x y : Op} {u : Value} (hx : s[m]? = some x) (hj : j < 5) (he : encO y = (encO x).set j u) :
    OwnO (w.setCell ⟨g, m * 5 + j, none⟩ u) base (.slice (some ⟨g, 0, none⟩) n cap) (s.set m y) ∧ w.grownBy (w.setCell ⟨g, m * 5 + j, none⟩ u) (some g) := by
  subst hn
  exact OwnO.set h hx hj he
theorem OwnO.cells {w : World} {base g cap n : Nat} {s : List Op} (h : OwnO w base (.slice (some ⟨g, 0, none⟩) n cap) s) {m : Nat} {x : Op} (hx : s[m]? = some x) :
    (w.cell? ⟨g, m * 5, none⟩ = some (.int .i64 x.kind) ∧ w.cell? ⟨g, m * 5 + 1, none⟩ = some (.string x.name) ∧ w.cell? ⟨g, m * 5 + 2, none⟩ = some (.string x.dest) ∧ w.cell? ⟨g, m * 5 + 3, none⟩ = some (.int .i64 x.n) ∧ w.cell? ⟨g, m * 5 + 4, none⟩ = some (.string x.text)) ∧ ∀ j, w.frozen? ⟨g, j, none⟩ = false := by
  obtain ⟨g', cap', e, _, _, _, hc, hf⟩ := h.at hx
  obtain ⟨rfl, -, rfl⟩ := by simpa using e
  exact ⟨⟨hc 0 (by omega), hc 1 (by omega), hc 2 (by omega), hc 3 (by omega), hc 4 (by omega)⟩, hf⟩
theorem getSet {α} {s : List α} {m : Nat} {x y : α} (hx : s[m]? = some x) : (s.set m y)[m]? = some y := List.getElem?_set_self (ltQ hx)
/-- What a marker of changes leaves. -/
def MarkedO (k : Int) (w : World) (base : Nat) (v : Value) (n : Nat) (e : Ending) (w' : World) : Prop := e = .returned (.int .i64 (k + 5 * n)) ∧ (∃ s, s.length = n ∧ OwnO w' base v s ∧ MkO k s) ∧ w.grownBy w' v.ownBlock
set_option maxHeartbeats 8000000 in
theorem markOpS_c {w : World} {base : Nat} {v : Value} {s : List Op} {k : Int} (h : OwnO w base v s) (hl : s.length ≤ 1048576) (h0 : 0 < k) (h1 : k ≤ 1152921504606846976) :
    Calls Try.prog 44 #[v, .int .i64 k] w (MarkedO k w base v s.length) := by
  obtain ⟨A, c, rfl, hc, hC⟩ := h.reads
  have H := Lib.hid h
  clear h hC
  go_enter Try.func44, Try.ntmps44
  go_wp2
  go_loopg [1, 5] s.length (fun g v1 v5 W => ∃ (j : Nat) (s' : List Op), g + j = s.length ∧ v5 = .int .i64 j ∧ v1 = .int .i64 (k + 5 * j) ∧ Hid (s'.length = s.length) ∧ Hid (∀ (i : Nat) (x : Op), i < j → s'[i]? = some x → x = mkO (k + 5 * i)) ∧ Hid (OwnO W base (.slice A s.length c) s') ∧ w.grownBy W (Value.slice A s.length c).ownBlock)
  case atStart => exact ⟨0, s, rfl, rfl, int_eq (by omega), rfl, fun i x hi => by omega, H.out, grown_refl _ _⟩
  case round =>
    obtain ⟨j, s', hj, rfl, rfl, hl', hm, ho, hg⟩ := hrel
    by_cases hlt : j < s.length
    · obtain ⟨x, hx⟩ := getQ (show j < s'.length by rw [hl'.out]; exact hlt)
      obtain ⟨z, hz⟩ : ∃ z, k + 5 * (j : Int) = z := ⟨_, rfl⟩
      have z0 : 0 < z := by omega
      have z1 : z ≤ 1152921504612089856 := by omega
      obtain ⟨g, cap, ev, hb, hgw, hcap, hcc, hf⟩ := ho.out.at hx
      obtain ⟨rfl, -, rfl⟩ := by simpa using ev
      rw [hz]
      have HX := Lib.hid hx
      have HZ := Lib.hid hz
      have HG := Lib.hid hg
      obtain ⟨⟨a0, -⟩, f⟩ := ho.out.cells HX.out
      have f0 := f (j * 5)
      have h1 := Lib.hid (OwnO.put ho.out hl'.out 0 (y := ⟨z, x.name, x.dest, x.n, x.text⟩) (u := .int .i64 z) HX.out (by omega) rfl)
      have M1 := Lib.hid (fun W : World => markText_c (z + 1) W (by omega) (by omega))
      have M2 := Lib.hid (fun W : World => markText_c (z + 1 + 1) W (by omega) (by omega))
      have M4 := Lib.hid (fun W : World => markText_c (z + 1 + 1 + 1 + 1) W (by omega) (by omega))
      clear hx hz hg ev hcc hf f
      go_wp2_with fail
      refine (M1.out _).mono ?_
      rintro e w4 ⟨rfl, hb4⟩
      clear a0 f0
      have o4 := Lib.hid (show OwnO w4 base (.slice (some ⟨g, 0, none⟩) s.length c) (s'.set j ⟨z, x.name, x.dest, x.n, x.text⟩) from h1.out.1.bel hb4)
      have G4 := Lib.hid (show w.grownBy w4 (some g) from grown_tr HG.out (grown_tr h1.out.2 (grown_of_bel hb4 _)))
      clear h1 hb4
      obtain ⟨⟨-, a1, -⟩, f⟩ := o4.out.cells (getSet HX.out)
      have f1 := f (j * 5 + 1)
      have h2 := Lib.hid (OwnO.put o4.out (by rw [List.length_set]; exact hl'.out) 1 (y := ⟨z, mkT (z + 1), x.dest, x.n, x.text⟩) (u := .string (mkT (z + 1))) (getSet HX.out) (by omega) rfl)
      simp only at a1
      clear f
      go_wp2_with fail
      refine (M2.out _).mono ?_
      rintro e w5 ⟨rfl, hb5⟩
      clear a1 f1
      have o5 := Lib.hid (show OwnO w5 base (.slice (some ⟨g, 0, none⟩) s.length c) (s'.set j ⟨z, mkT (z + 1), x.dest, x.n, x.text⟩) by have := h2.out.1.bel hb5; rwa [List.set_set] at this)
      have G5 := Lib.hid (show w.grownBy w5 (some g) from grown_tr G4.out (grown_tr h2.out.2 (grown_of_bel hb5 _)))
      clear h2 hb5 o4 G4
      obtain ⟨⟨-, -, a2, a3, -⟩, f⟩ := o5.out.cells (getSet HX.out)
      have f2 := f (j * 5 + 2)
      have h3 := Lib.hid (OwnO.put o5.out (by rw [List.length_set]; exact hl'.out) 2 (y := ⟨z, mkT (z + 1), mkT (z + 1 + 1), x.n, x.text⟩) (u := .string (mkT (z + 1 + 1))) (getSet HX.out) (by omega) rfl)
      obtain ⟨⟨-, -, -, a3', -⟩, f'⟩ := h3.out.1.cells (getSet (getSet HX.out))
      have f3 := f' (j * 5 + 3)
      have h4 := Lib.hid (OwnO.put h3.out.1 (by rw [List.length_set, List.length_set]; exact hl'.out) 3 (y := ⟨z, mkT (z + 1), mkT (z + 1 + 1), z + 1 + 1 + 1, x.text⟩) (u := .int .i64 (z + 1 + 1 + 1)) (getSet (getSet HX.out)) (by omega) rfl)
      simp only at a2 a3 a3'
      clear f f' a3
      go_wp2_with fail
      refine (M4.out _).mono ?_
      rintro e w6 ⟨rfl, hb6⟩
      clear a2 a3' f2 f3
      have o6 := Lib.hid (show OwnO w6 base (.slice (some ⟨g, 0, none⟩) s.length c) (s'.set j ⟨z, mkT (z + 1), mkT (z + 1 + 1), z + 1 + 1 + 1, x.text⟩) by have := h4.out.1.bel hb6; rwa [List.set_set, List.set_set] at this)
      have G6 := Lib.hid (show w.grownBy w6 (some g) from grown_tr G5.out (grown_tr h3.out.2 (grown_tr h4.out.2 (grown_of_bel hb6 _))))
      clear h3 h4 hb6 o5 G5
      obtain ⟨⟨-, -, -, -, a4⟩, f⟩ := o6.out.cells (getSet HX.out)
      have f4 := f (j * 5 + 4)
      have h5 := Lib.hid (OwnO.put o6.out (by rw [List.length_set]; exact hl'.out) 4 (y := mkO z) (u := .string (mkT (z + 1 + 1 + 1 + 1))) (getSet HX.out) (by omega) rfl)
      simp only at a4
      clear f
      go_wp2
      go_roundg (s.length - (j + 1))
      case measure => omega
      case rel =>
        refine ⟨j + 1, s'.set j (mkO z), by omega, by go_num, int_eq (by have := HZ.out; omega), by rw [Hid, List.length_set]; exact hl'.out, fun i x hi hx => ?_, by have := h5.out.1; rw [List.set_set] at this; exact this, grown_tr G6.out h5.out.2⟩
        by_cases e : i = j
        · subst e; rw [List.getElem?_set_self (ltQ HX.out)] at hx; rw [HZ.out]; exact (Option.some.inj hx).symm
        · rw [List.getElem?_set_ne (fun h => e h.symm)] at hx; exact hm.out i x (by omega) hx
    · have hjl : j = s.length := by omega
      have HM := Lib.hid (show MkO k s' from fun i x hx => hm.out i x (by have := ltQ hx; rw [hl'.out] at this; omega) hx)
      have HG := Lib.hid hg
      clear hg
      go_wp2
      go_ret
      exact ⟨ret_int (by omega), ⟨s', hl'.out, ho.out, HM.out⟩, HG.out⟩
structure RawOs (s : List Op) : Prop where
  len : s.length ≤ 9223372036854775807
  op : ∀ x ∈ s, RawO x
theorem OwnO.putAll {w : World} {base g cap n : Nat} {s : List Op} (h : OwnO w base (.slice (some ⟨g, 0, none⟩) n cap) s) (hn : s.length = n) {m : Nat} {x : Op} (hx : s[m]? = some x) (y : Op) :
    OwnO (((((w.setCell ⟨g, m * 5, none⟩ (.int .i64 y.kind)).setCell ⟨g, m * 5 + 1, none⟩ (.string y.name)).setCell ⟨g, m * 5 + 2, none⟩ (.string y.dest)).setCell ⟨g, m * 5 + 3, none⟩ (.int .i64 y.n)).setCell ⟨g, m * 5 + 4, none⟩ (.string y.text)) base (.slice (some ⟨g, 0, none⟩) n cap) (s.set m y) := by
  have h1 := (OwnO.put h hn 0 (y := ⟨y.kind, x.name, x.dest, x.n, x.text⟩) (u := .int .i64 y.kind) hx (by omega) rfl).1
  have h2 := (OwnO.put h1 (by rw [List.length_set]; exact hn) 1 (y := ⟨y.kind, y.name, x.dest, x.n, x.text⟩) (u := .string y.name) (getSet hx) (by omega) rfl).1
  rw [List.set_set] at h2
  have h3 := (OwnO.put h2 (by rw [List.length_set]; exact hn) 2 (y := ⟨y.kind, y.name, y.dest, x.n, x.text⟩) (u := .string y.dest) (getSet hx) (by omega) rfl).1
  rw [List.set_set] at h3
  have h4 := (OwnO.put h3 (by rw [List.length_set]; exact hn) 3 (y := ⟨y.kind, y.name, y.dest, y.n, x.text⟩) (u := .int .i64 y.n) (getSet hx) (by omega) rfl).1
  rw [List.set_set] at h4
  have h5 := (OwnO.put h4 (by rw [List.length_set]; exact hn) 4 (y := y) (u := .string y.text) (getSet hx) (by omega) rfl).1
  rw [List.set_set] at h5
  exact h5
end Go.Proofs.Ytccllgpaafgjaaa
/- New nodes and new worlds. -/


namespace Go.Proofs.Ytccllgpaafgjaaa
open Go.RowKit Go.Proofs.YtccllgpaafgjaaaW.PrintWords
set_option linter.unusedVariables false
set_option linter.unusedSimpArgs false

set_option maxHeartbeats 1000000 in
theorem implNodeNew1_c (w : World) : Calls Try.prog 17 #[.int .i64 1] w (Ret (.tuple #[.agg #[.bool true, .int .i64 1, .bool true, .bool true, .slice none 0 0], .bool true]) w) := by
  go_enter Try.func17, Try.ntmps17
  go_wp2
  refine bodyPost_ret (results_ct rfl _ _ w.heap.size 34 #[.bool true, .int .i64 1, .bool true, .bool true, .slice none 0 0] (0, 0) _ rfl (Blk.new _ _ _) Try.underlying34 rfl (by kernel_rfl)) rfl ?_
  exact ⟨rfl, bel_alloc (Below.refl _ _) _⟩
set_option maxHeartbeats 1000000 in
theorem implNodeNew2_c (w : World) : Calls Try.prog 17 #[.int .i64 2] w (Ret (.tuple #[.agg #[.bool true, .int .i64 0, .bool false, .bool false, .slice none 0 0], .bool true]) w) := by
  go_enter Try.func17, Try.ntmps17
  go_wp2
  refine bodyPost_ret (results_ct rfl _ _ w.heap.size 34 #[.bool true, .int .i64 0, .bool false, .bool false, .slice none 0 0] (0, 0) _ rfl (Blk.new _ _ _) Try.underlying34 rfl (by kernel_rfl)) rfl ?_
  exact ⟨rfl, bel_alloc (Below.refl _ _) _⟩
/-- What the reference's NodeNew leaves: an empty list of its own. -/
def SpecN (up : Bool) (term : Int) (leads alone ok : Bool) (w : World) (e : Ending) (w' : World) : Prop := ∃ A c, e = .returned (.tuple #[.agg #[.bool up, .int .i64 term, .bool leads, .bool alone, .slice A 0 c], .bool ok]) ∧ Bel w w'
set_option maxHeartbeats 1000000 in
theorem specNodeNew1_c (w : World) : Calls Try.prog 16 #[.int .i64 1] w (SpecN true 1 true true true w) := by
  have hin : inR 1 1 2 = true := rfl
  go_enter Try.func16, Try.ntmps16
  go_wp2_with (go_at_call 50; refine (l6In_c 1 1 2 _).mono ?_; rintro e w' ⟨rfl, rfl⟩)
  refine bodyPost_ret (results_ct rfl _ _ w.heap.size 34 #[.bool true, .int .i64 1, .bool true, .bool true, .slice (some ⟨w.heap.size + 1, 0, none⟩) 0 0] (0, 0) _ rfl ((Blk.new w _ _).alloc _) Try.underlying34 rfl (by kernel_rfl)) rfl ?_
  exact ⟨_, _, rfl, bel_alloc (bel_alloc (Below.refl _ _) _) _⟩
set_option maxHeartbeats 1000000 in
theorem specNodeNew2_c (w : World) : Calls Try.prog 16 #[.int .i64 2] w (SpecN true 0 false false true w) := by
  have hin : inR 2 1 2 = true := rfl
  go_enter Try.func16, Try.ntmps16
  go_wp2_with (go_at_call 50; refine (l6In_c 2 1 2 _).mono ?_; rintro e w' ⟨rfl, rfl⟩)
  refine bodyPost_ret (results_ct rfl _ _ w.heap.size 34 #[.bool true, .int .i64 0, .bool false, .bool false, .slice (some ⟨w.heap.size + 1, 0, none⟩) 0 0] (0, 0) _ rfl ((Blk.new w _ _).alloc _) Try.underlying34 rfl (by kernel_rfl)) rfl ?_
  exact ⟨_, _, rfl, bel_alloc (bel_alloc (Below.refl _ _) _) _⟩
end Go.Proofs.Ytccllgpaafgjaaa
/- Rows of nodes: eqNode, eqNodeS; the helpers of worlds without letters. -/

namespace Go.Proofs.Ytccllgpaafgjaaa
open Go.RowKit Go.Proofs.YtccllgpaafgjaaaW.PrintWords
set_option linter.unusedVariables false
set_option linter.unusedSimpArgs false

structure SmallN (n : Node) : Prop where
  ops : SmallOs n.ops
theorem kNode_open {w : World} {x : Node} {cs : List Value} (h : kNode.K w x cs) : ∃ A c, cs = [.bool x.up, .int .i64 x.term, .bool x.leads, .bool x.alone, .slice A x.ops.length c] ∧ x.ops.length ≤ c ∧ kOp.C w A x.ops.length x.ops := by
  obtain ⟨_, _, rfl, rfl, ⟨_, _, rfl, rfl, ⟨_, _, rfl, rfl, ⟨_, _, rfl, rfl, ⟨A, c, rfl, h1, h2⟩⟩⟩⟩⟩ := h
  exact ⟨A, c, rfl, h1, h2⟩
theorem at_node {w : World} {A : Option Addr} {n : Nat} {xs : List Node} (h : Kd.C kNode w A n xs) {i : Nat} {x : Node} (hx : xs[i]? = some x) : ∃ ad A1 c1, A = some ad ∧ (w.cell? (ad.add (i * 5)) = some (.bool x.up) ∧ w.cell? ⟨(ad.add (i * 5)).block, (ad.add (i * 5)).off + 1, none⟩ = some (.int .i64 x.term) ∧ w.cell? ⟨(ad.add (i * 5)).block, (ad.add (i * 5)).off + 2, none⟩ = some (.bool x.leads) ∧ w.cell? ⟨(ad.add (i * 5)).block, (ad.add (i * 5)).off + 3, none⟩ = some (.bool x.alone) ∧ w.cell? ⟨(ad.add (i * 5)).block, (ad.add (i * 5)).off + 4, none⟩ = some (.slice A1 x.ops.length c1)) ∧ x.ops.length ≤ c1 ∧ kOp.C w A1 x.ops.length x.ops := by
  have hl := h.1 ▸ ltQ hx
  obtain ⟨ad, c, e, _, hK, hc0⟩ := Kd.C_get h noN i (by omega) (by omega)
  have hc : ∀ j u, c[j]? = some u → w.cell? (ad.add (i * 5 + j)) = some u := hc0
  have he : xs.getD (i : Int).toNat noN = x := by rw [List.getD_eq_getElem?_getD, Int.toNat_natCast, hx]; rfl
  rw [he] at hK
  obtain ⟨A1, c1, rfl, h1, h2⟩ := kNode_open hK
  exact ⟨ad, A1, c1, e, ⟨hc 0 _ rfl, by rw [← add_field _ _ 1 (by omega)]; exact hc 1 _ rfl, by rw [← add_field _ _ 2 (by omega)]; exact hc 2 _ rfl, by rw [← add_field _ _ 3 (by omega)]; exact hc 3 _ rfl, by rw [← add_field _ _ 4 (by omega)]; exact hc 4 _ rfl⟩, h1, h2⟩
theorem reads2 {w : World} {nb : Nat} {u1 l1 a1 u2 l2 a2 : Bool} {t1 t2 : Int} {A1 A2 : Option Addr} {c1 c2 : Nat} (hB : Blk w nb #[.bool u1, .int .i64 t1, .bool l1, .bool a1, .slice A1 0 c1, .bool u2, .int .i64 t2, .bool l2, .bool a2, .slice A2 0 c2] 34) : kNode.C w (some ⟨nb, 0, none⟩) 2 [⟨u1, t1, l1, a1, []⟩, ⟨u2, t2, l2, a2, []⟩] := by
  have hz : ∀ A, kOp.C w A ([] : List Op).length [] := fun A => ⟨rfl, by simp, fun h => absurd h (Nat.lt_irrefl 0)⟩
  refine ⟨rfl, by omega, fun _ => ⟨_, rfl, fun j p hj => ?_⟩⟩
  match j, hj with
  | 0, hj =>
    obtain rfl := Option.some.inj hj
    refine ⟨[.bool u1, .int .i64 t1, .bool l1, .bool a1, .slice A1 0 c1], by first | rfl | exact ⟨[.bool u1], _, rfl, rfl, ⟨[.int .i64 t1], _, rfl, rfl, ⟨[.bool l1], _, rfl, rfl, ⟨[.bool a1], [.slice A1 0 c1], rfl, rfl, ⟨A1, c1, rfl, Nat.zero_le _, hz A1⟩⟩⟩⟩⟩, by first | rfl | exact ⟨[.bool u1], _, rfl, rfl, ⟨[.int .i64 t1], _, rfl, rfl, ⟨[.bool l1], _, rfl, rfl, ⟨[.bool a1], [.slice A1 0 c1], rfl, rfl, ⟨A1, c1, rfl, Nat.zero_le _, hz A1⟩⟩⟩⟩⟩, fun i u hu => ?_⟩
    rw [Addr.add_lit, hB.cell]
    show (#[_, _, _, _, _, _, _, _, _, _] : Array Value)[0 + (0 * 5 + i)]? = _
    match i, hu with
    | 0, hu => exact hu
    | 1, hu => exact hu
    | 2, hu => exact hu
    | 3, hu => exact hu
    | 4, hu => exact hu
    | i + 5, hu => simp at hu
  | 1, hj =>
    obtain rfl := Option.some.inj hj
    refine ⟨[.bool u2, .int .i64 t2, .bool l2, .bool a2, .slice A2 0 c2], by first | rfl | exact ⟨[.bool u2], _, rfl, rfl, ⟨[.int .i64 t2], _, rfl, rfl, ⟨[.bool l2], _, rfl, rfl, ⟨[.bool a2], [.slice A2 0 c2], rfl, rfl, ⟨A2, c2, rfl, Nat.zero_le _, hz A2⟩⟩⟩⟩⟩, by first | rfl | exact ⟨[.bool u2], _, rfl, rfl, ⟨[.int .i64 t2], _, rfl, rfl, ⟨[.bool l2], _, rfl, rfl, ⟨[.bool a2], [.slice A2 0 c2], rfl, rfl, ⟨A2, c2, rfl, Nat.zero_le _, hz A2⟩⟩⟩⟩⟩, fun i u hu => ?_⟩
    rw [Addr.add_lit, hB.cell]
    show (#[_, _, _, _, _, _, _, _, _, _] : Array Value)[0 + (1 * 5 + i)]? = _
    match i, hu with
    | 0, hu => exact hu
    | 1, hu => exact hu
    | 2, hu => exact hu
    | 3, hu => exact hu
    | 4, hu => exact hu
    | i + 5, hu => simp at hu
  | j + 2, hj => simp at hj
set_option maxHeartbeats 2000000 in
theorem eqNode_c {w : World} {A A' : Option Addr} {c c' : Nat} {n : Node} (hC : kOp.C w A n.ops.length n.ops) (hC' : kOp.C w A' n.ops.length n.ops) (hl : n.ops.length ≤ 1048576) :
    Calls Try.prog 23 #[.agg #[.bool n.up, .int .i64 n.term, .bool n.leads, .bool n.alone, .slice A n.ops.length c], .agg #[.bool n.up, .int .i64 n.term, .bool n.leads, .bool n.alone, .slice A' n.ops.length c']] w (Ret (.bool true) w) := by
  have H := Lib.hid hC
  have H' := Lib.hid hC'
  clear hC hC'
  go_enter Try.func23, Try.ntmps23
  go_wp2_with fail
  refine (eqOpS_c (Kd.C_alloc (Kd.C_alloc H.out _) _) (Kd.C_alloc (Kd.C_alloc H'.out _) _) hl).mono ?_
  rintro e w1 ⟨rfl, hb⟩
  go_wp2
  go_ret
  exact ⟨rfl, (bel_alloc (bel_alloc (Below.refl _ _) _) _ : Bel w _).tr hb⟩
set_option maxHeartbeats 4000000 in
theorem eqNodeS_c {w : World} {A A' : Option Addr} {c c' : Nat} {xs : List Node} (hC : kNode.C w A xs.length xs) (hC' : kNode.C w A' xs.length xs) (hl : xs.length ≤ 1048576) (hs : ∀ x ∈ xs, SmallN x) :
    Calls Try.prog 39 #[.slice A xs.length c, .slice A' xs.length c'] w (Ret (.bool true) w) := by
  have H := Lib.hid hC
  have H' := Lib.hid hC'
  have HS := Lib.hid hs
  clear hC hC' hs
  go_enter Try.func39, Try.ntmps39
  go_wp2
  go_loopg [5] xs.length (fun g v W => ∃ k : Nat, g + k = xs.length ∧ v = .int .i64 k ∧ Bel w W)
  case atStart => exact ⟨0, rfl, rfl, Below.refl _ _⟩
  case round =>
    obtain ⟨k, hk, rfl, hW⟩ := hrel
    by_cases hlt : k < xs.length
    · obtain ⟨x, hx⟩ := getQ hlt
      obtain ⟨ad, A1, c1, rfl, ⟨a0, a1, a2, a3, a4⟩, _, hx1⟩ := at_node (Kd.C_below H.out hW) hx
      obtain ⟨ad2, A2, c2, rfl, ⟨b0, b1, b2, b3, b4⟩, _, hx2⟩ := at_node (Kd.C_below H'.out hW) hx
      have g0 := gb_cell a0
      have g1 := gb_cell a1
      have g2 := gb_cell a2
      have g3 := gb_cell a3
      have g4 := gb_cell a4
      have g5 := gb_cell b0
      have g6 := gb_cell b1
      have g7 := gb_cell b2
      have g8 := gb_cell b3
      have g9 := gb_cell b4
      have HE := Lib.hid (fun p : GB wr => eqNode_c (c := c1) (c' := c2) (Kd.C_below hx1 p.h) (Kd.C_below hx2 p.h) (HS.out x (List.mem_of_getElem? hx)).ops.len)
      clear hx a0 a1 a2 a3 a4 b0 b1 b2 b3 b4 hx1 hx2
      go_wp2
      refine wp_region_gb (by kernel_rfl) (by kernel_rfl) ?_
      repeat (first | go_big_quiet_skip | (go_big_quiet_want; go_big_quiet_op; first | go_big_quiet_on | (apply Exists.intro; refine ⟨fun _ => ?_, ?_⟩; (go_at_call 23; exact gb_call (HE.out _)); go_big_quiet_on)))
      refine wpQuiet_nil ?_
      rintro _ ⟨⟨w4, hb4⟩, rfl⟩
      go_wp2
      go_roundg (xs.length - (k + 1))
      case measure => omega
      case rel => exact ⟨k + 1, by omega, by go_num, hW.tr hb4⟩
    · go_wp2
      go_ret
      exact ⟨rfl, hW⟩
theorem eqMsgS0_c (A A' : Option Addr) (c c' : Nat) (w : World) : Calls Try.prog 40 #[.slice A 0 c, .slice A' 0 c'] w (Ret (.bool true) w) := by
  go_enter Try.func40, Try.ntmps40
  go_wp2
  go_loopg [5] 0 (fun g v W => v = .int .i64 0 ∧ Bel w W)
  case atStart => exact ⟨rfl, Below.refl _ _⟩
  case round =>
    obtain ⟨rfl, hW⟩ := hrel
    go_wp2
    go_ret
    exact ⟨rfl, hW⟩
set_option maxRecDepth 20000 in
theorem markMsgS0_c (A : Option Addr) (c : Nat) (k : Int) (w : World) : Calls Try.prog 43 #[.slice A 0 c, .int .i64 k] w (Ret (.int .i64 k) w) := by
  go_enter Try.func43, Try.ntmps43
  go_wp2
  go_loopg [1, 5] 0 (fun g v1 v W => v = .int .i64 0 ∧ v1 = .int .i64 k ∧ Bel w W)
  case atStart => exact ⟨rfl, rfl, Below.refl _ _⟩
  case round =>
    obtain ⟨rfl, rfl, hW⟩ := hrel
    go_wp2
    go_ret
    exact ⟨rfl, hW⟩
set_option maxRecDepth 20000 in
theorem heldMsgS0_c (A : Option Addr) (c : Nat) (k : Int) (w : World) : Calls Try.prog 46 #[.slice A 0 c, .int .i64 k] w (Ret (.int .i64 k) w) := by
  go_enter Try.func46, Try.ntmps46
  go_wp2
  go_loopg [1, 5] 0 (fun g v1 v W => v = .int .i64 0 ∧ v1 = .int .i64 k ∧ Bel w W)
  case atStart => exact ⟨rfl, rfl, Below.refl _ _⟩
  case round =>
    obtain ⟨rfl, rfl, hW⟩ := hrel
    go_wp2
    go_ret
    exact ⟨rfl, hW⟩
theorem none_C (w : World) (A : Option Addr) : kOp.C w A ([] : List Op).length [] := ⟨rfl, by simp, fun h => absurd h (Nat.lt_irrefl 0)⟩
theorem markOpS0_c (k : Int) (w : World) (h0 : 0 < k) (h1 : k ≤ 1152921504606846976) : Calls Try.prog 44 #[.slice none 0 0, .int .i64 k] w (Ret (.int .i64 k) w) := by
  refine (markOpS_c (base := 0) (s := []) (World.ownsRow_nil _ _ _ _) (by simp) h0 h1).mono ?_
  rintro e w' ⟨he, _, hg⟩
  exact ⟨he.trans (ret_int (by simp)), ⟨hg.os, hg.tape, hg.output, hg.size, fun i hi => hg.block i hi (by simp [Value.ownBlock])⟩⟩
theorem heldOpS0_c (A : Option Addr) (c : Nat) (k : Int) (w : World) (h0 : 0 < k) (h1 : k ≤ 1152921504606846976) : Calls Try.prog 47 #[.slice A 0 c, .int .i64 k] w (Ret (.int .i64 k) w) := by
  refine (heldOpS_c (xs := []) (none_C w A) (fun i x hx => by simp at hx) (by simp) h0 h1).mono ?_
  rintro e w' ⟨he, hb⟩
  exact ⟨he.trans (ret_int (by simp)), hb⟩
theorem eqOpS0_c (A A' : Option Addr) (c c' : Nat) (w : World) : Calls Try.prog 41 #[.slice A 0 c, .slice A' 0 c'] w (Ret (.bool true) w) := eqOpS_c (xs := []) (none_C w A) (none_C w A') (by simp)
end Go.Proofs.Ytccllgpaafgjaaa
/- New worlds and their marks; FnExactWorldNew. -/

namespace Go.Proofs.Ytccllgpaafgjaaa
open Go.RowKit Go.Proofs.YtccllgpaafgjaaaW.PrintWords
set_option linter.unusedVariables false
set_option linter.unusedSimpArgs false

set_option maxRecDepth 20000 in
set_option maxHeartbeats 1000000 in
theorem markNodes2_c {w : World} {nb : Nat} (h : Blk w nb #[.bool true, .int .i64 1, .bool true, .bool true, .slice none 0 0, .bool true, .int .i64 0, .bool false, .bool false, .slice none 0 0] 34) : Calls Try.prog 42 #[.slice (some ⟨nb, 0, none⟩) 2 2, .int .i64 1] w (fun e w' => e = .returned (.int .i64 9) ∧ Blk w' nb #[.bool false, .int .i64 2, .bool true, .bool false, .slice none 0 0, .bool false, .int .i64 6, .bool false, .bool false, .slice none 0 0] 34 ∧ w.grownBy w' (some nb)) := by
  have H := Lib.hid h
  clear h
  go_enter Try.func42, Try.ntmps42
  go_wp2
  go_loopg [1, 5] 2 (fun g v1 v5 W => ((g = 2 ∧ v5 = .int .i64 0 ∧ v1 = .int .i64 1 ∧ Hid (Blk W nb #[.bool true, .int .i64 1, .bool true, .bool true, .slice none 0 0, .bool true, .int .i64 0, .bool false, .bool false, .slice none 0 0] 34)) ∨ (g = 1 ∧ v5 = .int .i64 1 ∧ v1 = .int .i64 5 ∧ Hid (Blk W nb #[.bool false, .int .i64 2, .bool true, .bool false, .slice none 0 0, .bool true, .int .i64 0, .bool false, .bool false, .slice none 0 0] 34)) ∨ (g = 0 ∧ v5 = .int .i64 2 ∧ v1 = .int .i64 9 ∧ Hid (Blk W nb #[.bool false, .int .i64 2, .bool true, .bool false, .slice none 0 0, .bool false, .int .i64 6, .bool false, .bool false, .slice none 0 0] 34))) ∧ Hid (w.grownBy W (some nb)))
  case atStart => exact ⟨.inl ⟨rfl, rfl, rfl, H.out⟩, grown_refl _ _⟩
  case round =>
    obtain ⟨hst, HG⟩ := hrel
    rcases hst with ⟨rfl, rfl, rfl, HB⟩ | ⟨rfl, rfl, rfl, HB⟩ | ⟨rfl, rfl, rfl, HB⟩
    · skip
      have q0 := HB.out.cell 0
      have q1 := HB.out.cell 1
      have q2 := HB.out.cell 2
      have q3 := HB.out.cell 3
      have q4 := HB.out.cell 4
      have q5 := HB.out.cell 5
      have q6 := HB.out.cell 6
      have q7 := HB.out.cell 7
      have q8 := HB.out.cell 8
      have q9 := HB.out.cell 9
      have f0 := HB.out.free 0
      have f1 := HB.out.free 1
      have f2 := HB.out.free 2
      have f3 := HB.out.free 3
      have f4 := HB.out.free 4
      have f5 := HB.out.free 5
      have f6 := HB.out.free 6
      have f7 := HB.out.free 7
      have f8 := HB.out.free 8
      have f9 := HB.out.free 9
      have y := HB.out.lt
      simp at q0 q1 q2 q3 q4 q5 q6 q7 q8 q9
      have HB0 := Lib.hid (HB.out.set 0 (.bool false) (cs' := #[.bool false, .int .i64 1, .bool true, .bool true, .slice none 0 0, .bool true, .int .i64 0, .bool false, .bool false, .slice none 0 0]) rfl)
      have HG0 := Lib.hid (grown_tr HG.out (grown_setCell wr nb 0 (.bool false)))
      have HB1 := Lib.hid (HB0.out.set 1 (.int .i64 2) (cs' := #[.bool false, .int .i64 2, .bool true, .bool true, .slice none 0 0, .bool true, .int .i64 0, .bool false, .bool false, .slice none 0 0]) rfl)
      have HG1 := Lib.hid (grown_tr HG0.out (grown_setCell (wr.setCell ⟨nb, 0, none⟩ (.bool false)) nb 1 (.int .i64 2)))
      have HB2 := Lib.hid (HB1.out.set 2 (.bool true) (cs' := #[.bool false, .int .i64 2, .bool true, .bool true, .slice none 0 0, .bool true, .int .i64 0, .bool false, .bool false, .slice none 0 0]) rfl)
      have HG2 := Lib.hid (grown_tr HG1.out (grown_setCell ((wr.setCell ⟨nb, 0, none⟩ (.bool false)).setCell ⟨nb, 1, none⟩ (.int .i64 2)) nb 2 (.bool true)))
      have HB3 := Lib.hid (HB2.out.set 3 (.bool false) (cs' := #[.bool false, .int .i64 2, .bool true, .bool false, .slice none 0 0, .bool true, .int .i64 0, .bool false, .bool false, .slice none 0 0]) rfl)
      have HG3 := Lib.hid (grown_tr HG2.out (grown_setCell (((wr.setCell ⟨nb, 0, none⟩ (.bool false)).setCell ⟨nb, 1, none⟩ (.int .i64 2)).setCell ⟨nb, 2, none⟩ (.bool true)) nb 3 (.bool false)))
      go_wp2_with fail
      refine (markOpS0_c 5 _ (by omega) (by omega)).mono ?_
      rintro e w4 ⟨rfl, hb4⟩
      clear q0 f0 q1 f1 q2 f2 q3 f3 q4 f4 q5 f5 q6 f6 q7 f7 q8 f8 q9 f9 y
      have HB5 := Lib.hid (HB3.out.bel hb4)
      have HG5 := Lib.hid (grown_tr HG3.out (grown_of_bel hb4 _))
      clear hb4
      go_wp2
      go_roundg 1
      case measure => omega
      case rel => exact ⟨.inr (.inl ⟨rfl, rfl, rfl, HB5.out⟩), HG5.out⟩
    · skip
      have q0 := HB.out.cell 0
      have q1 := HB.out.cell 1
      have q2 := HB.out.cell 2
      have q3 := HB.out.cell 3
      have q4 := HB.out.cell 4
      have q5 := HB.out.cell 5
      have q6 := HB.out.cell 6
      have q7 := HB.out.cell 7
      have q8 := HB.out.cell 8
      have q9 := HB.out.cell 9
      have f0 := HB.out.free 0
      have f1 := HB.out.free 1
      have f2 := HB.out.free 2
      have f3 := HB.out.free 3
      have f4 := HB.out.free 4
      have f5 := HB.out.free 5
      have f6 := HB.out.free 6
      have f7 := HB.out.free 7
      have f8 := HB.out.free 8
      have f9 := HB.out.free 9
      have y := HB.out.lt
      simp at q0 q1 q2 q3 q4 q5 q6 q7 q8 q9
      have HB0 := Lib.hid (HB.out.set 5 (.bool false) (cs' := #[.bool false, .int .i64 2, .bool true, .bool false, .slice none 0 0, .bool false, .int .i64 0, .bool false, .bool false, .slice none 0 0]) rfl)
      have HG0 := Lib.hid (grown_tr HG.out (grown_setCell wr nb 5 (.bool false)))
      have HB1 := Lib.hid (HB0.out.set 6 (.int .i64 6) (cs' := #[.bool false, .int .i64 2, .bool true, .bool false, .slice none 0 0, .bool false, .int .i64 6, .bool false, .bool false, .slice none 0 0]) rfl)
      have HG1 := Lib.hid (grown_tr HG0.out (grown_setCell (wr.setCell ⟨nb, 5, none⟩ (.bool false)) nb 6 (.int .i64 6)))
      have HB2 := Lib.hid (HB1.out.set 7 (.bool false) (cs' := #[.bool false, .int .i64 2, .bool true, .bool false, .slice none 0 0, .bool false, .int .i64 6, .bool false, .bool false, .slice none 0 0]) rfl)
      have HG2 := Lib.hid (grown_tr HG1.out (grown_setCell ((wr.setCell ⟨nb, 5, none⟩ (.bool false)).setCell ⟨nb, 6, none⟩ (.int .i64 6)) nb 7 (.bool false)))
      have HB3 := Lib.hid (HB2.out.set 8 (.bool false) (cs' := #[.bool false, .int .i64 2, .bool true, .bool false, .slice none 0 0, .bool false, .int .i64 6, .bool false, .bool false, .slice none 0 0]) rfl)
      have HG3 := Lib.hid (grown_tr HG2.out (grown_setCell (((wr.setCell ⟨nb, 5, none⟩ (.bool false)).setCell ⟨nb, 6, none⟩ (.int .i64 6)).setCell ⟨nb, 7, none⟩ (.bool false)) nb 8 (.bool false)))
      go_wp2_with fail
      refine (markOpS0_c 9 _ (by omega) (by omega)).mono ?_
      rintro e w4 ⟨rfl, hb4⟩
      clear q0 f0 q1 f1 q2 f2 q3 f3 q4 f4 q5 f5 q6 f6 q7 f7 q8 f8 q9 f9 y
      have HB5 := Lib.hid (HB3.out.bel hb4)
      have HG5 := Lib.hid (grown_tr HG3.out (grown_of_bel hb4 _))
      clear hb4
      go_wp2
      go_roundg 0
      case measure => omega
      case rel => exact ⟨.inr (.inr ⟨rfl, rfl, rfl, HB5.out⟩), HG5.out⟩
    · go_wp2
      go_ret
      exact ⟨rfl, HB.out, HG.out⟩
set_option maxRecDepth 20000 in
set_option maxHeartbeats 1000000 in
theorem heldNodes2_c {w : World} {nb : Nat} (h : Blk w nb #[.bool false, .int .i64 2, .bool true, .bool false, .slice none 0 0, .bool false, .int .i64 6, .bool false, .bool false, .slice none 0 0] 34) : Calls Try.prog 45 #[.slice (some ⟨nb, 0, none⟩) 2 2, .int .i64 1] w (Ret (.int .i64 9) w) := by
  have H := Lib.hid h
  clear h
  go_enter Try.func45, Try.ntmps45
  go_wp2
  go_loopg [1, 5] 2 (fun g v1 v5 W => ((g = 2 ∧ v5 = .int .i64 0 ∧ v1 = .int .i64 1) ∨ (g = 1 ∧ v5 = .int .i64 1 ∧ v1 = .int .i64 5) ∨ (g = 0 ∧ v5 = .int .i64 2 ∧ v1 = .int .i64 9)) ∧ Hid (Bel w W))
  case atStart => exact ⟨.inl ⟨rfl, rfl, rfl⟩, Below.refl _ _⟩
  case round =>
    obtain ⟨hst, HW⟩ := hrel
    have HB := Lib.hid (H.out.bel HW.out)
    rcases hst with ⟨rfl, rfl, rfl⟩ | ⟨rfl, rfl, rfl⟩ | ⟨rfl, rfl, rfl⟩
    · skip
      have q0 := HB.out.cell 0
      have q1 := HB.out.cell 1
      have q2 := HB.out.cell 2
      have q3 := HB.out.cell 3
      have q4 := HB.out.cell 4
      have q5 := HB.out.cell 5
      have q6 := HB.out.cell 6
      have q7 := HB.out.cell 7
      have q8 := HB.out.cell 8
      have q9 := HB.out.cell 9
      simp at q0 q1 q2 q3 q4 q5 q6 q7 q8 q9
      go_wp2_with fail
      refine (heldOpS0_c _ _ 5 _ (by omega) (by omega)).mono ?_
      rintro e w4 ⟨rfl, hb4⟩
      clear q0 q1 q2 q3 q4 q5 q6 q7 q8 q9
      have HW5 := Lib.hid (HW.out.tr hb4)
      clear hb4
      go_wp2
      go_roundg 1
      case measure => omega
      case rel => exact ⟨.inr (.inl ⟨rfl, rfl, rfl⟩), HW5.out⟩
    · skip
      have q0 := HB.out.cell 0
      have q1 := HB.out.cell 1
      have q2 := HB.out.cell 2
      have q3 := HB.out.cell 3
      have q4 := HB.out.cell 4
      have q5 := HB.out.cell 5
      have q6 := HB.out.cell 6
      have q7 := HB.out.cell 7
      have q8 := HB.out.cell 8
      have q9 := HB.out.cell 9
      simp at q0 q1 q2 q3 q4 q5 q6 q7 q8 q9
      go_wp2_with fail
      refine (heldOpS0_c _ _ 9 _ (by omega) (by omega)).mono ?_
      rintro e w4 ⟨rfl, hb4⟩
      clear q0 q1 q2 q3 q4 q5 q6 q7 q8 q9
      have HW5 := Lib.hid (HW.out.tr hb4)
      clear hb4
      go_wp2
      go_roundg 0
      case measure => omega
      case rel => exact ⟨.inr (.inr ⟨rfl, rfl, rfl⟩), HW5.out⟩
    · go_wp2
      go_ret
      exact ⟨rfl, HW.out⟩
set_option maxHeartbeats 1000000 in
theorem markWorld_c {w : World} {nb : Nat} (h : Blk w nb #[.bool true, .int .i64 1, .bool true, .bool true, .slice none 0 0, .bool true, .int .i64 0, .bool false, .bool false, .slice none 0 0] 34) : Calls Try.prog 13 #[.agg #[.slice (some ⟨nb, 0, none⟩) 2 2, .int .i64 1, .int .i64 1, .bool false, .slice none 0 0, .slice none 0 0], .int .i64 1] w (fun e w' => e = .returned (.int .i64 9) ∧ Blk w' nb #[.bool false, .int .i64 2, .bool true, .bool false, .slice none 0 0, .bool false, .int .i64 6, .bool false, .bool false, .slice none 0 0] 34 ∧ w.grownBy w' (some nb)) := by
  have H := Lib.hid h
  clear h
  go_enter Try.func13, Try.ntmps13
  go_wp2_with fail
  have hB : Blk (w.alloc (.cells #[.slice (some ⟨nb, 0, none⟩) 2 2, .int .i64 1, .int .i64 1, .bool false, .slice none 0 0, .slice none 0 0] 26)) w.heap.size #[.slice (some ⟨nb, 0, none⟩) 2 2, .int .i64 1, .int .i64 1, .bool false, .slice none 0 0, .slice none 0 0] 26 := Blk.new _ _ _
  have hb : Bel w (w.alloc (.cells #[.slice (some ⟨nb, 0, none⟩) 2 2, .int .i64 1, .int .i64 1, .bool false, .slice none 0 0, .slice none 0 0] 26)) := bel_alloc (Below.refl _ _) _
  have hlt := H.out.lt
  generalize w.alloc (.cells #[.slice (some ⟨nb, 0, none⟩) 2 2, .int .i64 1, .int .i64 1, .bool false, .slice none 0 0, .slice none 0 0] 26) = W0 at hB hb ⊢
  refine (markNodes2_c (H.out.bel hb)).mono ?_
  rintro e w1 ⟨rfl, hn, hg⟩
  have HB := Lib.hid (hB.grown hg (by intro e; injection e with e; omega))
  have HN := Lib.hid hn
  have HG := Lib.hid (grown_tr (grown_of_bel hb _) hg)
  clear hB hb hn hg hlt
  have q0 := HB.out.cell 4
  simp at q0
  go_wp2_with fail
  refine (markMsgS0_c _ _ _ _).mono ?_
  rintro e w2 ⟨rfl, hb2⟩
  clear q0
  replace HB := Lib.hid (HB.out.bel hb2)
  replace HN := Lib.hid (HN.out.bel hb2)
  replace HG := Lib.hid (grown_tr HG.out (grown_of_bel hb2 _))
  clear hb2
  have q0 := HB.out.cell 5
  simp at q0
  go_wp2_with fail
  refine (markOpS0_c 9 _ (by omega) (by omega)).mono ?_
  rintro e w3 ⟨rfl, hb3⟩
  clear q0
  replace HN := Lib.hid (HN.out.bel hb3)
  replace HG := Lib.hid (grown_tr HG.out (grown_of_bel hb3 _))
  clear hb3
  go_wp2
  go_ret
  exact ⟨rfl, HN.out, HG.out⟩
set_option maxHeartbeats 1000000 in
theorem heldWorld_c {w : World} {nb : Nat} (h : Blk w nb #[.bool false, .int .i64 2, .bool true, .bool false, .slice none 0 0, .bool false, .int .i64 6, .bool false, .bool false, .slice none 0 0] 34) : Calls Try.prog 14 #[.agg #[.slice (some ⟨nb, 0, none⟩) 2 2, .int .i64 1, .int .i64 1, .bool false, .slice none 0 0, .slice none 0 0], .int .i64 1] w (Ret (.int .i64 9) w) := by
  have H := Lib.hid h
  clear h
  go_enter Try.func14, Try.ntmps14
  go_wp2_with fail
  have hB : Blk (w.alloc (.cells #[.slice (some ⟨nb, 0, none⟩) 2 2, .int .i64 1, .int .i64 1, .bool false, .slice none 0 0, .slice none 0 0] 26)) w.heap.size #[.slice (some ⟨nb, 0, none⟩) 2 2, .int .i64 1, .int .i64 1, .bool false, .slice none 0 0, .slice none 0 0] 26 := Blk.new _ _ _
  have hb : Bel w (w.alloc (.cells #[.slice (some ⟨nb, 0, none⟩) 2 2, .int .i64 1, .int .i64 1, .bool false, .slice none 0 0, .slice none 0 0] 26)) := bel_alloc (Below.refl _ _) _
  generalize w.alloc (.cells #[.slice (some ⟨nb, 0, none⟩) 2 2, .int .i64 1, .int .i64 1, .bool false, .slice none 0 0, .slice none 0 0] 26) = W0 at hB hb ⊢
  refine (heldNodes2_c (H.out.bel hb)).mono ?_
  rintro e w1 ⟨rfl, hg⟩
  have HB := Lib.hid (hB.bel hg)
  have HW := Lib.hid (hb.tr hg)
  clear hB hb hg
  have q0 := HB.out.cell 4
  simp at q0
  go_wp2_with fail
  refine (heldMsgS0_c _ _ _ _).mono ?_
  rintro e w2 ⟨rfl, hb2⟩
  clear q0
  replace HB := Lib.hid (HB.out.bel hb2)
  replace HW := Lib.hid (HW.out.tr hb2)
  clear hb2
  have q0 := HB.out.cell 5
  simp at q0
  go_wp2_with fail
  refine (heldOpS0_c _ _ 9 _ (by omega) (by omega)).mono ?_
  rintro e w3 ⟨rfl, hb3⟩
  clear q0
  replace HW := Lib.hid (HW.out.tr hb3)
  clear hb3
  go_wp2
  go_ret
  exact ⟨rfl, HW.out⟩
end Go.Proofs.Ytccllgpaafgjaaa
/- New worlds and their marks; FnExactWorldNew. -/

namespace Go.Proofs.Ytccllgpaafgjaaa
open Go.RowKit Go.Proofs.YtccllgpaafgjaaaW.PrintWords
set_option linter.unusedVariables false
set_option linter.unusedSimpArgs false

theorem eqNodes2_c {w : World} {A A' : Option Addr} {c c' : Nat} (h1 : kNode.C w A 2 [⟨true, 1, true, true, []⟩, ⟨true, 0, false, false, []⟩]) (h2 : kNode.C w A' 2 [⟨true, 1, true, true, []⟩, ⟨true, 0, false, false, []⟩]) :
    Calls Try.prog 39 #[.slice A 2 c, .slice A' 2 c'] w (Ret (.bool true) w) :=
  eqNodeS_c (xs := [⟨true, 1, true, true, []⟩, ⟨true, 0, false, false, []⟩]) h1 h2 (by simp) (fun x hx => by simp at hx; rcases hx with rfl | rfl <;> exact ⟨⟨by simp, fun y hy => by simp at hy⟩⟩)
set_option maxHeartbeats 1000000 in
theorem eqWorld_c {w : World} {nb sb : Nat} {An Ad : Option Addr} {cn cd : Nat} (h1 : kNode.C w (some ⟨nb, 0, none⟩) 2 [⟨true, 1, true, true, []⟩, ⟨true, 0, false, false, []⟩]) (h2 : kNode.C w (some ⟨sb, 0, none⟩) 2 [⟨true, 1, true, true, []⟩, ⟨true, 0, false, false, []⟩]) :
    Calls Try.prog 12 #[.agg #[.slice (some ⟨nb, 0, none⟩) 2 2, .int .i64 1, .int .i64 1, .bool false, .slice none 0 0, .slice none 0 0], .agg #[.slice (some ⟨sb, 0, none⟩) 2 2, .int .i64 1, .int .i64 1, .bool false, .slice An 0 cn, .slice Ad 0 cd]] w (Ret (.bool true) w) := by
  have H1 := Lib.hid h1
  have H2 := Lib.hid h2
  clear h1 h2
  go_enter Try.func12, Try.ntmps12
  go_wp2_with fail
  have hB : Blk ((w.alloc (.cells #[.slice (some ⟨nb, 0, none⟩) 2 2, .int .i64 1, .int .i64 1, .bool false, .slice none 0 0, .slice none 0 0] 26)).alloc (.cells #[.slice (some ⟨sb, 0, none⟩) 2 2, .int .i64 1, .int .i64 1, .bool false, .slice An 0 cn, .slice Ad 0 cd] 26)) w.heap.size #[.slice (some ⟨nb, 0, none⟩) 2 2, .int .i64 1, .int .i64 1, .bool false, .slice none 0 0, .slice none 0 0] 26 := (Blk.new _ _ _).alloc _
  have hS : Blk ((w.alloc (.cells #[.slice (some ⟨nb, 0, none⟩) 2 2, .int .i64 1, .int .i64 1, .bool false, .slice none 0 0, .slice none 0 0] 26)).alloc (.cells #[.slice (some ⟨sb, 0, none⟩) 2 2, .int .i64 1, .int .i64 1, .bool false, .slice An 0 cn, .slice Ad 0 cd] 26)) (w.heap.size + 1) #[.slice (some ⟨sb, 0, none⟩) 2 2, .int .i64 1, .int .i64 1, .bool false, .slice An 0 cn, .slice Ad 0 cd] 26 := Blk.nw2 _ _ _ _
  have hb : Bel w ((w.alloc (.cells #[.slice (some ⟨nb, 0, none⟩) 2 2, .int .i64 1, .int .i64 1, .bool false, .slice none 0 0, .slice none 0 0] 26)).alloc (.cells #[.slice (some ⟨sb, 0, none⟩) 2 2, .int .i64 1, .int .i64 1, .bool false, .slice An 0 cn, .slice Ad 0 cd] 26)) := bel_alloc (bel_alloc (Below.refl _ _) _) _
  generalize ((w.alloc (.cells #[.slice (some ⟨nb, 0, none⟩) 2 2, .int .i64 1, .int .i64 1, .bool false, .slice none 0 0, .slice none 0 0] 26)).alloc (.cells #[.slice (some ⟨sb, 0, none⟩) 2 2, .int .i64 1, .int .i64 1, .bool false, .slice An 0 cn, .slice Ad 0 cd] 26)) = W0 at hB hS hb ⊢
  refine (eqNodes2_c (Kd.C_below H1.out hb) (Kd.C_below H2.out hb)).mono ?_
  rintro e w1 ⟨rfl, hg⟩
  have HB := Lib.hid (hB.bel hg)
  have HS := Lib.hid (hS.bel hg)
  have HW := Lib.hid (hb.tr hg)
  clear hB hS hb hg
  have q0 := HB.out.cell 0
  have q1 := HB.out.cell 1
  have q2 := HB.out.cell 2
  have q3 := HB.out.cell 3
  have q4 := HB.out.cell 4
  have q5 := HB.out.cell 5
  have p0 := HS.out.cell 0
  have p1 := HS.out.cell 1
  have p2 := HS.out.cell 2
  have p3 := HS.out.cell 3
  have p4 := HS.out.cell 4
  have p5 := HS.out.cell 5
  simp at q0 p0 q1 p1 q2 p2 q3 p3 q4 p4 q5 p5
  go_wp2_with fail
  refine (eqMsgS0_c _ _ _ _ _).mono ?_
  rintro e w2 ⟨rfl, hb2⟩
  clear q0 p0 q1 p1 q2 p2 q3 p3 q4 p4 q5 p5
  replace HB := Lib.hid (HB.out.bel hb2)
  replace HS := Lib.hid (HS.out.bel hb2)
  replace HW := Lib.hid (HW.out.tr hb2)
  clear hb2
  have q0 := HB.out.cell 0
  have q1 := HB.out.cell 1
  have q2 := HB.out.cell 2
  have q3 := HB.out.cell 3
  have q4 := HB.out.cell 4
  have q5 := HB.out.cell 5
  have p0 := HS.out.cell 0
  have p1 := HS.out.cell 1
  have p2 := HS.out.cell 2
  have p3 := HS.out.cell 3
  have p4 := HS.out.cell 4
  have p5 := HS.out.cell 5
  simp at q0 p0 q1 p1 q2 p2 q3 p3 q4 p4 q5 p5
  go_wp2_with fail
  refine (eqOpS0_c _ _ _ _ _).mono ?_
  rintro e w3 ⟨rfl, hb3⟩
  clear q0 p0 q1 p1 q2 p2 q3 p3 q4 p4 q5 p5
  replace HW := Lib.hid (HW.out.tr hb3)
  clear hb3
  go_wp2
  go_ret
  exact ⟨rfl, HW.out⟩
end Go.Proofs.Ytccllgpaafgjaaa
/- New worlds and their marks; FnExactWorldNew. -/

namespace Go.Proofs.Ytccllgpaafgjaaa
open Go.RowKit Go.Proofs.YtccllgpaafgjaaaW.PrintWords
set_option linter.unusedVariables false
set_option linter.unusedSimpArgs false

set_option maxHeartbeats 1000000 in
theorem implWorldNew_c (w : World) : Calls Try.prog 11 #[] w (fun e w' => ∃ nb, e = .returned (.agg #[.slice (some ⟨nb, 0, none⟩) 2 2, .int .i64 1, .int .i64 1, .bool false, .slice none 0 0, .slice none 0 0]) ∧ Blk w' nb #[.bool true, .int .i64 1, .bool true, .bool true, .slice none 0 0, .bool true, .int .i64 0, .bool false, .bool false, .slice none 0 0] 34 ∧ w.heap.size ≤ nb ∧ Bel w w') := by
  go_enter Try.func11, Try.ntmps11
  go_wp2_with fail
  have hB : Blk (w.alloc (.cells #[.slice none 0 0, .int .i64 0, .int .i64 0, .bool false, .slice none 0 0, .slice none 0 0] 26)) w.heap.size #[.slice none 0 0, .int .i64 0, .int .i64 0, .bool false, .slice none 0 0, .slice none 0 0] 26 := Blk.new _ _ _
  have hb : Bel w (w.alloc (.cells #[.slice none 0 0, .int .i64 0, .int .i64 0, .bool false, .slice none 0 0, .slice none 0 0] 26)) := bel_alloc (Below.refl _ _) _
  generalize w.alloc (.cells #[.slice none 0 0, .int .i64 0, .int .i64 0, .bool false, .slice none 0 0, .slice none 0 0] 26) = W0 at hB hb ⊢
  refine (implNodeNew1_c _).mono ?_
  rintro e w1 ⟨rfl, hb1⟩
  have HB := Lib.hid (hB.bel hb1)
  have HW := Lib.hid (hb.tr hb1)
  clear hB hb hb1
  go_wp2_with fail
  have hN : Blk (w1.alloc (.cells #[.bool true, .int .i64 1, .bool true, .bool true, .slice none 0 0] 34)) w1.heap.size #[.bool true, .int .i64 1, .bool true, .bool true, .slice none 0 0] 34 := Blk.new _ _ _
  have hb : Bel w1 (w1.alloc (.cells #[.bool true, .int .i64 1, .bool true, .bool true, .slice none 0 0] 34)) := bel_alloc (Below.refl _ _) _
  have hlt := HB.out.lt
  generalize w1.alloc (.cells #[.bool true, .int .i64 1, .bool true, .bool true, .slice none 0 0] 34) = W2 at hN hb ⊢
  obtain ⟨n1, hn1⟩ : ∃ b, w1.heap.size = b := ⟨_, rfl⟩
  rw [hn1] at hN hlt ⊢
  clear hn1
  refine (implNodeNew2_c _).mono ?_
  rintro e w3 ⟨rfl, hb3⟩
  replace HB := Lib.hid (HB.out.bel (hb.tr hb3))
  have HN := Lib.hid (hN.bel hb3)
  replace HW := Lib.hid (HW.out.tr (hb.tr hb3))
  clear hN hb hb3

  have q0 := HB.out.cell 0
  have q1 := HB.out.cell 1
  have q2 := HB.out.cell 2
  have q3 := HB.out.cell 3
  have q4 := HB.out.cell 4
  have q5 := HB.out.cell 5
  have f0 := HB.out.free 0
  have f1 := HB.out.free 1
  have f2 := HB.out.free 2
  have f3 := HB.out.free 3
  have f4 := HB.out.free 4
  have f5 := HB.out.free 5
  have y := HB.out.lt
  have m0 := HN.out.cell 0
  have m1 := HN.out.cell 1
  have m2 := HN.out.cell 2
  have m3 := HN.out.cell 3
  have m4 := HN.out.cell 4
  have ym := HN.out.lt
  simp at q0 q1 q2 q3 q4 q5 m0 m1 m2 m3 m4
  have y1 : w.heap.size < w3.heap.size + 1 := by omega
  have y2 : w.heap.size < w3.heap.size + 1 + 1 := by omega
  have y3 : w.heap.size < w3.heap.size + 1 + 1 + 1 := by omega
  have z0 : ¬ w.heap.size = w3.heap.size := by omega
  have z1 : ¬ w.heap.size = w3.heap.size + 1 := by omega
  have z2 : ¬ w.heap.size = w3.heap.size + 1 + 1 := by omega
  have z3 : ¬ w.heap.size = w3.heap.size + 1 + 1 + 1 := by omega
  go_wp2
  have hR0 := HB.out.set 0 (.slice (some ⟨w3.heap.size + 1, 0, none⟩) 2 2) (cs' := #[.slice (some ⟨w3.heap.size + 1, 0, none⟩) 2 2, .int .i64 0, .int .i64 0, .bool false, .slice none 0 0, .slice none 0 0]) rfl
  have hR1 := hR0.set 1 (.int .i64 1) (cs' := #[.slice (some ⟨w3.heap.size + 1, 0, none⟩) 2 2, .int .i64 1, .int .i64 0, .bool false, .slice none 0 0, .slice none 0 0]) rfl
  have hR2 := hR1.set 2 (.int .i64 1) (cs' := #[.slice (some ⟨w3.heap.size + 1, 0, none⟩) 2 2, .int .i64 1, .int .i64 1, .bool false, .slice none 0 0, .slice none 0 0]) rfl
  have hR3 := hR2.set 3 (.bool false) (cs' := #[.slice (some ⟨w3.heap.size + 1, 0, none⟩) 2 2, .int .i64 1, .int .i64 1, .bool false, .slice none 0 0, .slice none 0 0]) rfl
  have hR4 := hR3.set 4 (.slice none 0 0) (cs' := #[.slice (some ⟨w3.heap.size + 1, 0, none⟩) 2 2, .int .i64 1, .int .i64 1, .bool false, .slice none 0 0, .slice none 0 0]) rfl
  have hR5 := hR4.set 5 (.slice none 0 0) (cs' := #[.slice (some ⟨w3.heap.size + 1, 0, none⟩) 2 2, .int .i64 1, .int .i64 1, .bool false, .slice none 0 0, .slice none 0 0]) rfl
  have hbl : Bel w ((((((w3.setCell ⟨w.heap.size, 0, none⟩ (.slice (some ⟨w3.heap.size + 1, 0, none⟩) 2 2)).setCell ⟨w.heap.size, 1, none⟩ (.int .i64 1)).setCell ⟨w.heap.size, 2, none⟩ (.int .i64 1)).setCell ⟨w.heap.size, 3, none⟩ (.bool false)).setCell ⟨w.heap.size, 4, none⟩ (.slice none 0 0)).setCell ⟨w.heap.size, 5, none⟩ (.slice none 0 0)) := (bel_set (bel_set (bel_set (bel_set (bel_set (bel_set HW.out (Nat.le_refl _) 0 (.slice (some ⟨w3.heap.size + 1, 0, none⟩) 2 2)) (Nat.le_refl _) 1 (.int .i64 1)) (Nat.le_refl _) 2 (.int .i64 1)) (Nat.le_refl _) 3 (.bool false)) (Nat.le_refl _) 4 (.slice none 0 0)) (Nat.le_refl _) 5 (.slice none 0 0))
  have hsz : ((((((w3.setCell ⟨w.heap.size, 0, none⟩ (.slice (some ⟨w3.heap.size + 1, 0, none⟩) 2 2)).setCell ⟨w.heap.size, 1, none⟩ (.int .i64 1)).setCell ⟨w.heap.size, 2, none⟩ (.int .i64 1)).setCell ⟨w.heap.size, 3, none⟩ (.bool false)).setCell ⟨w.heap.size, 4, none⟩ (.slice none 0 0)).setCell ⟨w.heap.size, 5, none⟩ (.slice none 0 0)).heap.size = w3.heap.size := by simp
  clear hR0 hR1 hR2 hR3 hR4
  generalize ((((((w3.setCell ⟨w.heap.size, 0, none⟩ (.slice (some ⟨w3.heap.size + 1, 0, none⟩) 2 2)).setCell ⟨w.heap.size, 1, none⟩ (.int .i64 1)).setCell ⟨w.heap.size, 2, none⟩ (.int .i64 1)).setCell ⟨w.heap.size, 3, none⟩ (.bool false)).setCell ⟨w.heap.size, 4, none⟩ (.slice none 0 0)).setCell ⟨w.heap.size, 5, none⟩ (.slice none 0 0)) = W5 at hR5 hbl hsz ⊢
  have hN : Blk ((W5.alloc (.cells #[.bool true, .int .i64 0, .bool false, .bool false, .slice none 0 0] 34)).alloc (.cells #[.bool true, .int .i64 1, .bool true, .bool true, .slice none 0 0, .bool true, .int .i64 0, .bool false, .bool false, .slice none 0 0] 34)) (W5.heap.size + 1) #[.bool true, .int .i64 1, .bool true, .bool true, .slice none 0 0, .bool true, .int .i64 0, .bool false, .bool false, .slice none 0 0] 34 := Blk.nw2 _ _ _ _
  rw [hsz] at hN
  refine bodyPost_ret (results_cell_row rfl _ _ w.heap.size 26 #[.slice (some ⟨w3.heap.size + 1, 0, none⟩) 2 2, .int .i64 1, .int .i64 1, .bool false, .slice none 0 0, .slice none 0 0] (0, 0) _ rfl ((hR5.alloc (.cells #[.bool true, .int .i64 0, .bool false, .bool false, .slice none 0 0] 34)).alloc (.cells #[.bool true, .int .i64 1, .bool true, .bool true, .slice none 0 0, .bool true, .int .i64 0, .bool false, .bool false, .slice none 0 0] 34)) Try.underlying26 rfl (by kernel_rfl)) rfl ?_
  exact ⟨w3.heap.size + 1, rfl, hN, by omega, (bel_alloc (bel_alloc hbl (.cells #[.bool true, .int .i64 0, .bool false, .bool false, .slice none 0 0] 34)) (.cells #[.bool true, .int .i64 1, .bool true, .bool true, .slice none 0 0, .bool true, .int .i64 0, .bool false, .bool false, .slice none 0 0] 34))⟩
set_option maxHeartbeats 1000000 in
theorem specWorldNew_c (w : World) : Calls Try.prog 10 #[] w (fun e w' => ∃ nb An cn Ad cd Aa ca Ab cb, e = .returned (.agg #[.slice (some ⟨nb, 0, none⟩) 2 2, .int .i64 1, .int .i64 1, .bool false, .slice An 0 cn, .slice Ad 0 cd]) ∧ Blk w' nb #[.bool true, .int .i64 1, .bool true, .bool true, .slice Aa 0 ca, .bool true, .int .i64 0, .bool false, .bool false, .slice Ab 0 cb] 34 ∧ w.heap.size ≤ nb ∧ Bel w w') := by
  go_enter Try.func10, Try.ntmps10
  go_wp2_with fail
  have hB : Blk (w.alloc (.cells #[.slice none 0 0, .int .i64 0, .int .i64 0, .bool false, .slice none 0 0, .slice none 0 0] 26)) w.heap.size #[.slice none 0 0, .int .i64 0, .int .i64 0, .bool false, .slice none 0 0, .slice none 0 0] 26 := Blk.new _ _ _
  have hb : Bel w (w.alloc (.cells #[.slice none 0 0, .int .i64 0, .int .i64 0, .bool false, .slice none 0 0, .slice none 0 0] 26)) := bel_alloc (Below.refl _ _) _
  generalize w.alloc (.cells #[.slice none 0 0, .int .i64 0, .int .i64 0, .bool false, .slice none 0 0, .slice none 0 0] 26) = W0 at hB hb ⊢
  refine (specNodeNew1_c _).mono ?_
  rintro e w1 ⟨Aa, ca, rfl, hb1⟩
  have HB := Lib.hid (hB.bel hb1)
  have HW := Lib.hid (hb.tr hb1)
  clear hB hb hb1
  go_wp2_with fail
  have hN : Blk (w1.alloc (.cells #[.bool true, .int .i64 1, .bool true, .bool true, .slice Aa 0 ca] 34)) w1.heap.size #[.bool true, .int .i64 1, .bool true, .bool true, .slice Aa 0 ca] 34 := Blk.new _ _ _
  have hb : Bel w1 (w1.alloc (.cells #[.bool true, .int .i64 1, .bool true, .bool true, .slice Aa 0 ca] 34)) := bel_alloc (Below.refl _ _) _
  have hlt := HB.out.lt
  generalize w1.alloc (.cells #[.bool true, .int .i64 1, .bool true, .bool true, .slice Aa 0 ca] 34) = W2 at hN hb ⊢
  obtain ⟨n1, hn1⟩ : ∃ b, w1.heap.size = b := ⟨_, rfl⟩
  rw [hn1] at hN hlt ⊢
  clear hn1
  refine (specNodeNew2_c _).mono ?_
  rintro e w3 ⟨Ab, cb, rfl, hb3⟩
  replace HB := Lib.hid (HB.out.bel (hb.tr hb3))
  have HN := Lib.hid (hN.bel hb3)
  replace HW := Lib.hid (HW.out.tr (hb.tr hb3))
  clear hN hb hb3

  have q0 := HB.out.cell 0
  have q1 := HB.out.cell 1
  have q2 := HB.out.cell 2
  have q3 := HB.out.cell 3
  have q4 := HB.out.cell 4
  have q5 := HB.out.cell 5
  have f0 := HB.out.free 0
  have f1 := HB.out.free 1
  have f2 := HB.out.free 2
  have f3 := HB.out.free 3
  have f4 := HB.out.free 4
  have f5 := HB.out.free 5
  have y := HB.out.lt
  have m0 := HN.out.cell 0
  have m1 := HN.out.cell 1
  have m2 := HN.out.cell 2
  have m3 := HN.out.cell 3
  have m4 := HN.out.cell 4
  have ym := HN.out.lt
  simp at q0 q1 q2 q3 q4 q5 m0 m1 m2 m3 m4
  have y1 : w.heap.size < w3.heap.size + 1 := by omega
  have y2 : w.heap.size < w3.heap.size + 1 + 1 := by omega
  have y3 : w.heap.size < w3.heap.size + 1 + 1 + 1 := by omega
  have z0 : ¬ w.heap.size = w3.heap.size := by omega
  have z1 : ¬ w.heap.size = w3.heap.size + 1 := by omega
  have z2 : ¬ w.heap.size = w3.heap.size + 1 + 1 := by omega
  have z3 : ¬ w.heap.size = w3.heap.size + 1 + 1 + 1 := by omega
  go_wp2
  have hR0 := HB.out.set 0 (.slice (some ⟨w3.heap.size + 1, 0, none⟩) 2 2) (cs' := #[.slice (some ⟨w3.heap.size + 1, 0, none⟩) 2 2, .int .i64 0, .int .i64 0, .bool false, .slice none 0 0, .slice none 0 0]) rfl
  have hR1 := hR0.set 1 (.int .i64 1) (cs' := #[.slice (some ⟨w3.heap.size + 1, 0, none⟩) 2 2, .int .i64 1, .int .i64 0, .bool false, .slice none 0 0, .slice none 0 0]) rfl
  have hR2 := hR1.set 2 (.int .i64 1) (cs' := #[.slice (some ⟨w3.heap.size + 1, 0, none⟩) 2 2, .int .i64 1, .int .i64 1, .bool false, .slice none 0 0, .slice none 0 0]) rfl
  have hR3 := hR2.set 3 (.bool false) (cs' := #[.slice (some ⟨w3.heap.size + 1, 0, none⟩) 2 2, .int .i64 1, .int .i64 1, .bool false, .slice none 0 0, .slice none 0 0]) rfl
  have hR4 := hR3.set 4 (.slice (some ⟨w3.heap.size + 1 + 1, 0, none⟩) 0 0) (cs' := #[.slice (some ⟨w3.heap.size + 1, 0, none⟩) 2 2, .int .i64 1, .int .i64 1, .bool false, .slice (some ⟨w3.heap.size + 1 + 1, 0, none⟩) 0 0, .slice none 0 0]) rfl
  have hR5 := hR4.set 5 (.slice (some ⟨w3.heap.size + 1 + 1 + 1, 0, none⟩) 0 0) (cs' := #[.slice (some ⟨w3.heap.size + 1, 0, none⟩) 2 2, .int .i64 1, .int .i64 1, .bool false, .slice (some ⟨w3.heap.size + 1 + 1, 0, none⟩) 0 0, .slice (some ⟨w3.heap.size + 1 + 1 + 1, 0, none⟩) 0 0]) rfl
  have hbl : Bel w ((((((w3.setCell ⟨w.heap.size, 0, none⟩ (.slice (some ⟨w3.heap.size + 1, 0, none⟩) 2 2)).setCell ⟨w.heap.size, 1, none⟩ (.int .i64 1)).setCell ⟨w.heap.size, 2, none⟩ (.int .i64 1)).setCell ⟨w.heap.size, 3, none⟩ (.bool false)).setCell ⟨w.heap.size, 4, none⟩ (.slice (some ⟨w3.heap.size + 1 + 1, 0, none⟩) 0 0)).setCell ⟨w.heap.size, 5, none⟩ (.slice (some ⟨w3.heap.size + 1 + 1 + 1, 0, none⟩) 0 0)) := (bel_set (bel_set (bel_set (bel_set (bel_set (bel_set HW.out (Nat.le_refl _) 0 (.slice (some ⟨w3.heap.size + 1, 0, none⟩) 2 2)) (Nat.le_refl _) 1 (.int .i64 1)) (Nat.le_refl _) 2 (.int .i64 1)) (Nat.le_refl _) 3 (.bool false)) (Nat.le_refl _) 4 (.slice (some ⟨w3.heap.size + 1 + 1, 0, none⟩) 0 0)) (Nat.le_refl _) 5 (.slice (some ⟨w3.heap.size + 1 + 1 + 1, 0, none⟩) 0 0))
  have hsz : ((((((w3.setCell ⟨w.heap.size, 0, none⟩ (.slice (some ⟨w3.heap.size + 1, 0, none⟩) 2 2)).setCell ⟨w.heap.size, 1, none⟩ (.int .i64 1)).setCell ⟨w.heap.size, 2, none⟩ (.int .i64 1)).setCell ⟨w.heap.size, 3, none⟩ (.bool false)).setCell ⟨w.heap.size, 4, none⟩ (.slice (some ⟨w3.heap.size + 1 + 1, 0, none⟩) 0 0)).setCell ⟨w.heap.size, 5, none⟩ (.slice (some ⟨w3.heap.size + 1 + 1 + 1, 0, none⟩) 0 0)).heap.size = w3.heap.size := by simp
  clear hR0 hR1 hR2 hR3 hR4
  generalize ((((((w3.setCell ⟨w.heap.size, 0, none⟩ (.slice (some ⟨w3.heap.size + 1, 0, none⟩) 2 2)).setCell ⟨w.heap.size, 1, none⟩ (.int .i64 1)).setCell ⟨w.heap.size, 2, none⟩ (.int .i64 1)).setCell ⟨w.heap.size, 3, none⟩ (.bool false)).setCell ⟨w.heap.size, 4, none⟩ (.slice (some ⟨w3.heap.size + 1 + 1, 0, none⟩) 0 0)).setCell ⟨w.heap.size, 5, none⟩ (.slice (some ⟨w3.heap.size + 1 + 1 + 1, 0, none⟩) 0 0)) = W5 at hR5 hbl hsz ⊢
  have hN : Blk ((W5.alloc (.cells #[.bool true, .int .i64 0, .bool false, .bool false, .slice Ab 0 cb] 34)).alloc (.cells #[.bool true, .int .i64 1, .bool true, .bool true, .slice Aa 0 ca, .bool true, .int .i64 0, .bool false, .bool false, .slice Ab 0 cb] 34)) (W5.heap.size + 1) #[.bool true, .int .i64 1, .bool true, .bool true, .slice Aa 0 ca, .bool true, .int .i64 0, .bool false, .bool false, .slice Ab 0 cb] 34 := Blk.nw2 _ _ _ _
  rw [hsz] at hN
  refine bodyPost_ret (results_cell_row rfl _ _ w.heap.size 26 #[.slice (some ⟨w3.heap.size + 1, 0, none⟩) 2 2, .int .i64 1, .int .i64 1, .bool false, .slice (some ⟨w3.heap.size + 1 + 1, 0, none⟩) 0 0, .slice (some ⟨w3.heap.size + 1 + 1 + 1, 0, none⟩) 0 0] (0, 0) _ rfl ((((hR5.alloc (.cells #[.bool true, .int .i64 0, .bool false, .bool false, .slice Ab 0 cb] 34)).alloc (.cells #[.bool true, .int .i64 1, .bool true, .bool true, .slice Aa 0 ca, .bool true, .int .i64 0, .bool false, .bool false, .slice Ab 0 cb] 34)).alloc (.cells #[] 104)).alloc (.cells #[] 61)) Try.underlying26 rfl (by kernel_rfl)) rfl ?_
  exact ⟨w3.heap.size + 1, _, _, _, _, _, _, _, _, rfl, ((hN.alloc (.cells #[] 104)).alloc (.cells #[] 61)), by omega, (bel_alloc (bel_alloc (bel_alloc (bel_alloc hbl (.cells #[.bool true, .int .i64 0, .bool false, .bool false, .slice Ab 0 cb] 34)) (.cells #[.bool true, .int .i64 1, .bool true, .bool true, .slice Aa 0 ca, .bool true, .int .i64 0, .bool false, .bool false, .slice Ab 0 cb] 34)) (.cells #[] 104)) (.cells #[] 61))⟩
end Go.Proofs.Ytccllgpaafgjaaa
/- The closed facts of the rows that do not depend on the law, and how a row's facts are put together one by one. -/



namespace Go.Proofs.Ytccllgpaafgjaaa
open Go.ChangeShapes Go.WideShapes
set_option linter.unusedVariables false
theorem joined_of {P : Program} {f : FuncId} {fn : Func} {s : ChangeSpec} {c : OpenClaim}
    (h0 : (c.wf (OpenSpec.ofChange s)) = true)
    (h1 : (laidOutB P) = true)
    (h2 : (mapsRowed P) = true)
    (h3 : (fn.params.all (P.readableRec ·)) = true)
    (h4 : (namedTie P c.named s.vars) = true)
    (h5 : (c.stops == []) = true)
    (h6 : (P.stops == []) = true)
    (h7 : (c.knobs == []) = true)
    (h8 : (P.stopKnobs == []) = true)
    (h9 : (c.inPlace == P.inPlace f) = true)
    (h10 : (c.unfollowed == P.unfollowed f) = true)
    (h11 : (c.recurses == P.recurses f) = true)
    (h12 : (c.named == P.varsNamed f) = true)
    (h13 : (c.maps == (fn.params.toList ++ s.plain.varTypes P).any (P.mapsRec ·)) = true)
    (h14 : (c.ifaces == (fn.params.toList ++ s.plain.varTypes P).any (P.ifacesRec ·)) = true)
    (h15 : (c.mapsOut == P.mapsAmong fn.resultTypes.toList) = true)
    (h16 : (c.loops == (fn.params.toList ++ s.plain.varTypes P).any (P.loopsFrom ·)) = true)
    (h17 : (c.wideKeys == (fn.params.toList ++ s.plain.varTypes P ++ fn.resultTypes.toList).any (P.wideKeysFrom ·)) = true)
    (h18 : (s.vars.all (P.varReadable ·)) = true)
    (h19 : (fn.resultTypes.all (fun t => P.readableRec t && decide (t < P.types.size))) = true)
    (h20 : (c.ifacesOut == fn.resultTypes.toList.any (P.ifacesRec ·)) = true)
    (h21 : (c.loopsOut == fn.resultTypes.toList.any (P.loopsFrom ·)) = true)
    (h22 : (c.plainKeys == P.plainKeys) = true)
    (h23 : (c.shortTexts.isNone) = true)
    (h24 : (P.stopsHeard) = true)
    (h25 : (P.mayEnter) = true)
    (h26 : (c.lifted == P.liftsFinal) = true)
    (h27 : (P.make == some c.make) = true)
    (h28 : (c.kinds == (if c.domain.isEmpty then [] else fn.params.toList.map fun t => match P.underlying t with | some (.int k) => some k | _ => none)) = true)
    (h29 : (c.pinned == c.pinnedBy) = true)
    (h30 : (c.veiled == (fn.params.toList ++ s.plain.varTypes P ++ fn.resultTypes.toList).any (P.veiledRec ·)) = true)
    (h31 : (c.veiledFits P fn.params.toList (fn.params.toList ++ s.plain.varTypes P ++ fn.resultTypes.toList)) = true) : joinedFacts P f fn s c = true := by
  unfold joinedFacts
  simp only [Bool.and_eq_true]
  exact ⟨⟨⟨⟨⟨⟨⟨⟨⟨⟨⟨⟨⟨⟨⟨⟨⟨⟨⟨⟨⟨⟨⟨⟨⟨⟨⟨⟨⟨⟨⟨h0, h1⟩, h2⟩, h3⟩, h4⟩, h5⟩, h6⟩, h7⟩, h8⟩, h9⟩, h10⟩, h11⟩, h12⟩, h13⟩, h14⟩, h15⟩, h16⟩, h17⟩, h18⟩, h19⟩, h20⟩, h21⟩, h22⟩, h23⟩, h24⟩, h25⟩, h26⟩, h27⟩, h28⟩, h29⟩, h30⟩, h31⟩
def ordN : List Nat := [104, 97, 114, 110, 101, 115, 115, 32, 99, 52, 51, 53, 49, 50, 57, 57, 50, 53, 55, 97, 53, 50, 57, 101, 53, 99, 100, 101, 55, 52, 56, 100, 51, 57, 57, 52, 54, 49, 54, 98,
  98, 97, 55, 48, 100, 50, 54, 52, 55, 97, 52, 49, 52, 48, 99, 99, 49, 55, 54, 98, 48, 51, 52, 97, 100, 56, 56, 50, 55, 99, 57, 53, 32, 99, 117, 116, 32, 97, 116, 32,
  108, 111, 111, 112, 46, 101, 120, 97, 109, 112, 108, 101, 47, 103, 97, 114, 110, 101, 114, 47, 108, 97, 119, 115, 46, 70, 110, 69, 120, 97, 99, 116, 87, 111, 114, 108, 100, 78, 101, 119,
  32, 108, 111, 111, 112, 46, 101, 120, 97, 109, 112, 108, 101, 47, 103, 97, 114, 110, 101, 114, 47, 108, 97, 119, 115, 46, 70, 110, 78, 111, 100, 101, 78, 101, 119, 32, 108, 111, 111, 112,
  46, 101, 120, 97, 109, 112, 108, 101, 47, 103, 97, 114, 110, 101, 114, 47, 108, 97, 119, 115, 46, 70, 110, 69, 120, 97, 99, 116, 78, 111, 100, 101, 79, 107, 32, 108, 111, 111, 112, 46,
  101, 120, 97, 109, 112, 108, 101, 47, 103, 97, 114, 110, 101, 114, 47, 108, 97, 119, 115, 46, 70, 110, 76, 111, 103, 76, 101, 115, 115, 32, 108, 111, 111, 112, 46, 101, 120, 97, 109, 112,
  108, 101, 47, 103, 97, 114, 110, 101, 114, 47, 108, 97, 119, 115, 46, 70, 110, 76, 111, 103, 80, 111, 111, 108, 32, 108, 111, 111, 112, 46, 101, 120, 97, 109, 112, 108, 101, 47, 103, 97,
  114, 110, 101, 114, 47, 108, 97, 119, 115, 46, 70, 110, 76, 111, 103, 84, 119, 111, 32, 108, 111, 111, 112, 46, 101, 120, 97, 109, 112, 108, 101, 47, 103, 97, 114, 110, 101, 114, 47, 108,
  97, 119, 115, 46, 70, 110, 76, 111, 103, 70, 97, 108, 108]
theorem ord_eq : Try.prog.initOrder = String.ofList (ordN.map Char.ofNat) := by kernel_rfl
theorem ord_list : Try.prog.initOrder.toList = ordN.map Char.ofNat := by rw [ord_eq, String.toList_ofList]
theorem jo_laid : laidOutB Try.prog = true := by kernel_rfl
theorem jo_maps : mapsRowed Try.prog = true := by kernel_rfl
theorem jo_stops : (Try.prog.stops == []) = true := by kernel_rfl
theorem jo_knobs : (Try.prog.stopKnobs == []) = true := by kernel_rfl
theorem jo_keys : (true == Try.prog.plainKeys) = true := by kernel_rfl
theorem jo_heard : Try.prog.stopsHeard = true := by kernel_rfl
theorem ord_words : behindMainWord (wordsSigns (ordN.map Char.ofNat)) = "cut".toList :: (behindMainWord (wordsSigns (ordN.map Char.ofNat))).tail := by kernel_rfl
theorem strip_cut (W : List (List Char)) : stripLifts liftWords ("cut".toList :: W) = ([], "cut".toList :: W) := by kernel_rfl
theorem jo_later : Try.prog.laysLater = false := by kernel_rfl
theorem jo_reflect : Try.prog.bearsReflect = false := by kernel_rfl
theorem jo_door : Try.prog.doorFits [] = true := by kernel_rfl
theorem cut_gc : ("cut".toList == "gc".toList) = false := by kernel_rfl
theorem cut_spec : ("cut".toList == "spec".toList) = false := by kernel_rfl
theorem cut_carried : ("cut".toList == "carried".toList) = false := by kernel_rfl
theorem cut_cut : ("cut".toList == "cut".toList) = true := by kernel_rfl
theorem some_cut : (some "cut".toList == some "cut".toList) = true := by kernel_rfl
theorem jo_enter : Try.prog.mayEnter = true := by
  rw [Program.mayEnter, ord_list, ord_words]
  generalize (behindMainWord (wordsSigns (ordN.map Char.ofNat))).tail = W
  simp only [strip_cut, cut_gc, cut_spec, cut_carried, List.head?_cons, some_cut, jo_later, jo_reflect, jo_door, Bool.or_self, Bool.false_and, Bool.not_false, Bool.or_true, Bool.and_self, List.contains_nil]
theorem jo_lifts : Try.prog.headLifts = [] := by
  unfold Program.headLifts
  rw [ord_list, ord_words]
  generalize (behindMainWord (wordsSigns (ordN.map Char.ofNat))).tail = W
  simp only [strip_cut, List.head?_cons, some_cut, if_true]
theorem jo_final : (false == Try.prog.liftsFinal) = true := by
  unfold Program.liftsFinal
  rw [jo_lifts, ord_list, ord_words]
  generalize (behindMainWord (wordsSigns (ordN.map Char.ofNat))).tail = W
  kernel_rfl
theorem jo_make : (Try.prog.make == some .cut) = true := by
  rw [Program.make, ord_list, ord_words]
  generalize (behindMainWord (wordsSigns (ordN.map Char.ofNat))).tail = W
  simp only [cut_gc, cut_spec, cut_cut, Bool.or_self, Bool.true_or, if_true, Bool.false_eq_true, if_false]
  kernel_rfl
end Go.Proofs.Ytccllgpaafgjaaa

/- Arguments opened: a pool that came in, as lists. -/
import Derived.Test.YtpobgjkmjlmafaaMg
import Derived.Deep.Slices
import Derived.Deep.Fields
import Derived.ChangeSame
import Derived.ChangeArms
import Derived.Lib.SmallJoins
import Derived.WideShapes
import Derived.OpenShut
namespace Go.Proofs.Ytpobgjkmjlmafaa
open Go.RowKit Go.Proofs.YtpobgjkmjlmafaaW.PrintWords Go.Joins Go.ChangeShapes Go.WideShapes Go.Deep
set_option linter.unusedVariables false
set_option linter.unusedSimpArgs false

theorem list_of {α : Type} {Q : Nat → α → Prop} : ∀ n : Nat, (∀ i, i < n → ∃ x, Q i x) → ∃ xs : List α, xs.length = n ∧ ∀ i x, xs[i]? = some x → Q i x
  | 0, _ => ⟨[], rfl, fun i x h => by simp at h⟩
  | n + 1, h => by
    obtain ⟨xs, hl, hx⟩ := list_of n fun i hi => h i (by omega)
    obtain ⟨x, hq⟩ := h n (by omega)
    refine ⟨xs ++ [x], by simp [hl], fun i y hy => ?_⟩
    by_cases hi : i < n
    · rw [List.getElem?_append_left (by omega)] at hy; exact hx i y hy
    · rw [List.getElem?_append_right (by omega), hl] at hy
      obtain rfl : i = n := by have := ltQ hy; simp at this; omega
      rw [Nat.sub_self] at hy
      obtain rfl := Option.some.inj hy
      exact hq
section
variable {H : Type} {enc : TypeId × Value → H} {P : Program} {w : World} {base : Nat} {spare : Nat → Bool} {held : Bool}
/-- A slice that came in, as a row of elements that can be read. -/
theorem open_row {α : Type} (d : Kd α) {Q : α → Prop} {t e : TypeId} {fuel : Nat} {cs : List Value} {x : DataW H × List MemPlace} (ht : P.underlying t = some (.slice e)) (hC : P.cellsOf e = d.sz)
    (hel : ∀ (n : Nat) (c : List Value) (y : DataW H × List MemPlace), c.length = d.sz → DataW.trod enc P w base spare held n e c = some y → ∃ z : α, d.K w z c ∧ Q z) (h : DataW.trod enc P w base spare held fuel t cs = some x) :
    ∃ A c, ∃ xs : List α, cs = [.slice A xs.length c] ∧ xs.length ≤ c ∧ d.C w A xs.length xs ∧ (∀ z ∈ xs, Q z) ∧ xs.length ≤ maxLen := by
  rcases open_slice ht h with ⟨rfl, _⟩ | ⟨a, len, cap, m, n, D, Pl, rfl, hb, hl, hm, hmm, _, hi⟩
  · exact ⟨none, 0, [], rfl, Nat.le_refl _, ⟨rfl, by simp, fun h => by simp at h⟩, fun z hz => by simp at hz, by simp⟩
  · have hlm : len ≤ m := by rw [hmm]; split <;> omega
    obtain ⟨xs, hxl, hx⟩ := list_of (Q := fun i z => (∃ c, c.length = d.sz ∧ d.K w z c ∧ ∀ j u, c[j]? = some u → w.cell? (a.add (i * d.sz + j)) = some u) ∧ Q z) len fun i hi' => by
      obtain ⟨c, hc, hy⟩ := hi i (by omega)
      rw [hC] at hc
      obtain ⟨_, hcl, hat⟩ := World.cells?_some hc
      obtain ⟨z, hz, hq⟩ := hel n c _ hcl hy
      refine ⟨z, ⟨c, hcl, hz, fun j u hu => ?_⟩, hq⟩
      rw [← Go.Deep.add_add, hat j (by rw [← hcl]; exact ltQ hu), hu]
    have hmx : (maxLen : Nat) ≤ 9223372036854775807 := by simp [maxLen]
    refine ⟨some a, cap, xs, by rw [hxl], by omega, ⟨rfl, by omega, fun _ => ⟨a, rfl, fun j p hp => ?_⟩⟩, fun z hz => ?_, by omega⟩
    · obtain ⟨c, h1, h2, h3⟩ := (hx j p hp).1
      exact ⟨c, h1, h2, h3⟩
    · obtain ⟨j, hj⟩ := List.getElem?_of_mem hz
      exact (hx j z hj).2
end
section
variable {H : Type} {enc : TypeId × Value → H} {w : World} {base : Nat} {spare : Nat → Bool} {held : Bool}
theorem two_cells {c : List Value} (h : c.length = 2) : ∃ a b, c = [a, b] := by
  match c, h with
  | [a, b], _ => exact ⟨a, b, rfl⟩
theorem open_intE {n : Nat} {c : List Value} {y : DataW H × List MemPlace} (h : DataW.trod enc Try.prog w base spare held n 3 c = some y) : ∃ z : Int, kInt.K w z c ∧ -9223372036854775808 ≤ z ∧ z ≤ 9223372036854775807 := by
  obtain ⟨z, rfl, _, hw⟩ := DataW.trod_int Try.underlying3 h
  have hb := bounds_i64 hw
  exact ⟨z, rfl, hb.1, hb.2⟩
theorem cells_str : Try.prog.cellsOf 9 = 1 := by kernel_rfl
theorem cells_int : Try.prog.cellsOf 3 = 1 := by kernel_rfl
theorem cells_ints : Try.prog.cellsOf 41 = 1 := by kernel_rfl
theorem big_max : (maxLen : Nat) ≤ 9223372036854775807 := by simp [maxLen]
theorem open_slotE {n : Nat} {c : List Value} {y : DataW H × List MemPlace} (hl : c.length = 2) (h : DataW.trod enc Try.prog w base spare held n 117 c = some y) : ∃ z : Slot, kSlot.K w z c ∧ z.text.size ≤ 9223372036854775807 := by
  obtain ⟨a, b, rfl⟩ := two_cells hl
  obtain ⟨y0, y1, m, _, _, h0, h1⟩ := trod_struct2 Try.underlying117 h
  simp only [cells_str, cells_int, List.drop_zero, List.drop_succ_cons, List.take_succ_cons, List.take_zero] at h0 h1
  obtain ⟨s, e0, _, hs⟩ := DataW.trod_string Try.underlying9 h0
  obtain ⟨u, e1, _, _⟩ := DataW.trod_int Try.underlying3 h1
  simp only [List.cons.injEq, and_true] at e0 e1
  have := big_max
  exact ⟨⟨s, u⟩, ⟨[a], [b], rfl, by rw [e0]; rfl, by rw [e1]; rfl⟩, by show s.size ≤ _; omega⟩
theorem open_volE {n : Nat} {c : List Value} {y : DataW H × List MemPlace} (hl : c.length = 2) (h : DataW.trod enc Try.prog w base spare held n 119 c = some y) : ∃ z : Vol, kVol.K w z c ∧ (z.name.size ≤ 9223372036854775807 ∧ z.blocks.length ≤ 9223372036854775807) := by
  obtain ⟨a, b, rfl⟩ := two_cells hl
  obtain ⟨y0, y1, m, _, _, h0, h1⟩ := trod_struct2 Try.underlying119 h
  simp only [cells_str, cells_ints, List.drop_zero, List.drop_succ_cons, List.take_succ_cons, List.take_zero] at h0 h1
  obtain ⟨s, e0, _, hs⟩ := DataW.trod_string Try.underlying9 h0
  obtain ⟨A, cc, xs, e1, hcc, hC, _, hx⟩ := open_row kInt (Q := fun _ => True) Try.underlying41 cells_int (fun n c y hl h => by
    obtain ⟨z, hz, _⟩ := open_intE h
    exact ⟨z, hz, trivial⟩) h1
  simp only [List.cons.injEq, and_true] at e0 e1
  have := big_max
  exact ⟨⟨s, xs⟩, ⟨[a], [b], rfl, by rw [e0]; rfl, A, cc, by rw [e1], hcc, hC⟩, by show s.size ≤ _; omega, by show xs.length ≤ _; omega⟩
set_option maxRecDepth 100000 in
theorem open_pool {r : Reach} {b0 : Nat} {v : Value} {d : DataW H} {p : List MemPlace} (hv : Value.okWide Try.prog w r b0 25 v) (h : DataW.Trod enc Try.prog w base spare held 25 v d p) :
    ∃ A0 A1 c0 c1, ∃ q : Pool, v = .agg #[.slice A0 q.slots.length c0, .slice A1 q.vols.length c1] ∧ PoolIn w A0 A1 c0 c1 q ∧ RawS q.slots ∧ RawV q.vols := by
  obtain ⟨v0, v1, y0, y1, n, rfl, _, _, h0, h1⟩ := open_agg2 Try.underlying25 (by kernel_rfl) (by kernel_rfl) hv h
  obtain ⟨A0, c0, ss, e0, l0, C0, Q0, m0⟩ := open_row kSlot (Q := fun z => z.text.size ≤ 9223372036854775807) Try.underlying22 (show Try.prog.cellsOf 117 = 2 by kernel_rfl) (fun n c y hl h => open_slotE hl h) h0
  obtain ⟨A1, c1, vs, e1, l1, C1, Q1, m1⟩ := open_row kVol (Q := fun z => z.name.size ≤ 9223372036854775807 ∧ z.blocks.length ≤ 9223372036854775807) Try.underlying23 (show Try.prog.cellsOf 119 = 2 by kernel_rfl) (fun n c y hl h => open_volE hl h) h1
  simp only [List.cons.injEq, and_true] at e0 e1
  have := big_max
  exact ⟨A0, A1, c0, c1, ⟨ss, vs⟩, by rw [e0, e1], ⟨C0, l0, C1, l1⟩, ⟨by show ss.length ≤ _; omega, Q0⟩, ⟨by show vs.length ≤ _; omega, fun x hx => (Q1 x hx).1, fun x hx => (Q1 x hx).2⟩⟩
end
end Go.Proofs.Ytpobgjkmjlmafaa

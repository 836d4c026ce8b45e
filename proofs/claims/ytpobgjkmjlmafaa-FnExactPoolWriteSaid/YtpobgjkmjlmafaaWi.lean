/- Where the search for a piece starts; dropping a reference, adding one, in slots of one's own. -/
import Derived.Test.YtpobgjkmjlmafaaWc
import Derived.Test.YtpobgjkmjlmafaaOwn
namespace Go.Proofs.Ytpobgjkmjlmafaa
open Go.RowKit Go.Proofs.YtpobgjkmjlmafaaW.PrintWords
set_option linter.unusedVariables false
set_option linter.unusedSimpArgs false

def psum : Nat → List UInt8 → Int
  | _, [] => 0
  | i, b :: l => ((i : Int) + 1) * ((b.toNat : Int) - 96) + psum (i + 1) l
theorem psum_snoc (l : List UInt8) (i : Nat) (b : UInt8) : psum i (l ++ [b]) = psum i l + ((i + l.length : Nat) + 1 : Int) * ((b.toNat : Int) - 96) := by
  induction l generalizing i with
  | nil => simp [psum]
  | cons c l ih => simp only [List.cons_append, psum, ih, List.length_cons]; rw [show i + 1 + l.length = i + (l.length + 1) by omega]; omega
def placeOf (s : ByteArray) : Int := psum 0 s.toList % 8 + 1
theorem psum_bd {l : List UInt8} (h : l.all ltr = true) (i : Nat) (hl : i + l.length ≤ 4) : 0 ≤ psum i l ∧ psum i l ≤ 16 * l.length := by
  induction l generalizing i with
  | nil => simp [psum]
  | cons c l ih =>
    simp only [List.all_cons, Bool.and_eq_true] at h
    have h1 := inR_iff.1 h.1
    simp only [List.length_cons] at hl
    have h2 := ih h.2 (i + 1) (by omega)
    simp only [psum, List.length_cons]
    have h3 : i = 0 ∨ i = 1 ∨ i = 2 ∨ i = 3 := by omega
    rcases h3 with rfl | rfl | rfl | rfl <;> omega
theorem tOk_parts {s : ByteArray} (h : tOk s = true) : s.toList.all ltr = true ∧ s.size ≤ 4 := by simpa [tOk] using h
theorem placeOf_bd {s : ByteArray} : 1 ≤ placeOf s ∧ placeOf s ≤ 8 := by unfold placeOf; omega
theorem ltr_at {s : ByteArray} (h : tOk s = true) {k : Nat} (hk : k < s.size) : 97 ≤ (s[k].toNat : Int) ∧ (s[k].toNat : Int) ≤ 100 := by
  have := List.all_eq_true.1 (tOk_parts h).1 _ (List.mem_of_getElem? (byte_at hk))
  exact inR_iff.1 this

set_option maxHeartbeats 1000000 in
theorem textPlace_c (s : ByteArray) (w : World) (ht : tOk s = true) : Calls Try.prog 137 #[.string s] w (Same (.int .i64 (placeOf s)) w) := by
  have HT := Lib.hid ht
  have hs := (tOk_parts ht).2
  have HC : ∀ w, Calls Try.prog 94 #[.string s] w (Same (.bool true) w) := fun w => ht ▸ implTextOk_c s w (by unfold maxLen; omega)
  have HC' := Lib.hid HC
  clear HC ht
  go_enter Try.func137, Try.ntmps137
  go_wp2_with (go_at_call 94; refine (HC'.out _).mono ?_; rintro e w' ⟨rfl, rfl⟩)
  go_loop [3, 10] (fun v3 v => ∃ k : Nat, k ≤ s.size ∧ v = .int .i64 k ∧ v3 = .int .i64 (psum 0 (s.toList.take k))) (fun _ v => s.size - (intOf v).toNat)
  case atStart => exact ⟨0, Nat.zero_le _, rfl, rfl⟩
  case round =>
    obtain ⟨k, hk, rfl, rfl⟩ := hrel
    have hbd := psum_bd (l := s.toList.take k) (by rw [List.all_eq_true]; intro x hx; exact List.all_eq_true.1 (tOk_parts HT.out).1 x (List.mem_of_mem_take hx)) 0 (by rw [List.length_take, size_toList]; omega)
    have hbl : (s.toList.take k).length ≤ 4 := by rw [List.length_take, size_toList]; omega
    by_cases hlt : k < s.size
    · obtain ⟨hb0, hb1⟩ := ltr_at HT.out hlt
      have H := Lib.hid ((congrArg (psum 0) (take_snoc (byte_at hlt))).trans (psum_snoc _ _ _))
      have HL := Lib.hid (show (s.toList.take k).length = k by rw [List.length_take, size_toList]; omega)
      have hp0 : psum 0 [] = 0 := rfl
      have h4 : k = 0 ∨ k = 1 ∨ k = 2 ∨ k = 3 := by omega
      rcases h4 with rfl | rfl | rfl | rfl
      all_goals
        go_wp2
        go_round
        case rel => exact ⟨_, hlt, rfl, int_eq (by rw [H.out, HL.out]; first | omega | (simp only [List.take_zero, psum]; omega))⟩
        case measure => simp [intOf]; omega
    · have H := Lib.hid (show s.toList.take k = s.toList from take_all (by rw [size_toList]; exact hlt))
      go_wp2
      go_ret
      exact ⟨ret_int (by rw [H.out]; rfl), rfl⟩
set_option maxHeartbeats 1000000 in
theorem l1Place_c (s : ByteArray) (w : World) (ht : tOk s = true) : Calls Try.prog 158 #[.string s] w (Same (.int .i64 (placeOf s)) w) := by
  have HT := Lib.hid ht
  have hs := (tOk_parts ht).2
  clear ht
  go_enter Try.func158, Try.ntmps158
  go_wp2
  go_loop [3, 4] (fun v3 v => ∃ k : Nat, k ≤ s.size ∧ v = .int .i64 k ∧ v3 = .int .i64 (psum 0 (s.toList.take k))) (fun _ v => s.size - (intOf v).toNat)
  case atStart => exact ⟨0, Nat.zero_le _, rfl, rfl⟩
  case round =>
    obtain ⟨k, hk, rfl, rfl⟩ := hrel
    have hbd := psum_bd (l := s.toList.take k) (by rw [List.all_eq_true]; intro x hx; exact List.all_eq_true.1 (tOk_parts HT.out).1 x (List.mem_of_mem_take hx)) 0 (by rw [List.length_take, size_toList]; omega)
    have hbl : (s.toList.take k).length ≤ 4 := by rw [List.length_take, size_toList]; omega
    by_cases hlt : k < s.size
    · obtain ⟨hb0, hb1⟩ := ltr_at HT.out hlt
      have H := Lib.hid ((congrArg (psum 0) (take_snoc (byte_at hlt))).trans (psum_snoc _ _ _))
      have HL := Lib.hid (show (s.toList.take k).length = k by rw [List.length_take, size_toList]; omega)
      have hp0 : psum 0 [] = 0 := rfl
      have h4 : k = 0 ∨ k = 1 ∨ k = 2 ∨ k = 3 := by omega
      rcases h4 with rfl | rfl | rfl | rfl
      all_goals
        go_wp2
        go_round
        case rel => exact ⟨_, hlt, rfl, int_eq (by rw [H.out, HL.out]; first | omega | (simp only [List.take_zero, psum]; omega))⟩
        case measure => simp [intOf]; omega
    · have H := Lib.hid (show s.toList.take k = s.toList from take_all (by rw [size_toList]; exact hlt))
      go_wp2
      go_ret
      exact ⟨ret_int (by rw [H.out]; rfl), rfl⟩
end Go.Proofs.Ytpobgjkmjlmafaa

/- What the program's and the reference's smallest functions compute: ranges, letters, names, the next slot. -/
import Derived.Test.YtpobgjkmjlmafaaPure
namespace Go.Proofs.Ytpobgjkmjlmafaa
open Go.RowKit Go.Proofs.YtpobgjkmjlmafaaW.PrintWords
set_option linter.unusedVariables false
set_option linter.unusedSimpArgs false

theorem within_c (a b c : Int) (w : World) : Calls Try.prog 104 #[.int .i64 a, .int .i64 b, .int .i64 c] w (Same (.bool (inR a b c)) w) := by
  by_cases h : b ≤ a
  all_goals
    have hh := h
    go_enter Try.func104, Try.ntmps104
    go_wp2
    go_ret
    exact ⟨ret_bool (by simp [inR, hh]; try omega), rfl⟩
theorem l6In_c (a b c : Int) (w : World) : Calls Try.prog 98 #[.int .i64 a, .int .i64 b, .int .i64 c] w (Same (.bool (inR a b c)) w) := by
  by_cases h : b ≤ a
  all_goals
    have hh := h
    go_enter Try.func98, Try.ntmps98
    go_wp2
    go_ret
    exact ⟨ret_bool (by simp [inR, hh]; try omega), rfl⟩
theorem isSlot_c (a : Int) (w : World) : Calls Try.prog 153 #[.int .i64 a] w (Same (.bool (inR a 1 8)) w) := by
  go_enter Try.func153, Try.ntmps153
  go_wp2_with (go_at_call 104; refine (within_c _ _ _ _).mono ?_; rintro e w' ⟨rfl, rfl⟩)
  go_ret
  exact ⟨rfl, rfl⟩
theorem isName_c (s : ByteArray) (w : World) : Calls Try.prog 103 #[.string s] w (Same (.bool (isNm s)) w) := by
  cases h1 : s.toList == [65]
  all_goals cases h2 : s.toList == [66]
  all_goals cases h3 : s.toList == [67]
  all_goals
    have g := Lib.hid (show isNm s = _ by unfold isNm; rw [h1, h2, h3])
    go_enter Try.func103, Try.ntmps103
    go_wp2
    go_ret
    exact ⟨ret_bool (by rw [g.out]; rfl), rfl⟩
theorem byte_le (b : UInt8) : 0 ≤ (b.toNat : Int) ∧ (b.toNat : Int) ≤ 255 := by have := b.toNat_lt; omega
theorem l3Name_c (s : ByteArray) (w : World) (hs : s.size ≤ maxLen) : Calls Try.prog 115 #[.string s] w (Same (.bool (isNm s)) w) := by
  unfold maxLen at hs
  by_cases h : s.size = 1
  · have h0 : 0 < s.size := by omega
    obtain ⟨hb0, hb1⟩ := byte_le s[0]
    have g := Lib.hid (show isNm s = inR (s[0].toNat : Int) 65 68 by
      have hb := byte_at h0
      rw [isNm_eq, h]
      have hl : s.toList.length = 1 := by rw [size_toList, h]
      generalize s.toList = l at hb hl
      match l, hl with
      | [b], _ => simp at hb; simp [hb])
    go_enter Try.func115, Try.ntmps115
    go_wp2_with (go_at_call 98; refine (l6In_c _ _ _ _).mono ?_; rintro e w' ⟨rfl, rfl⟩)
    go_ret
    exact ⟨ret_bool g.out.symm, rfl⟩
  · have g := Lib.hid (show isNm s = false by rw [isNm_eq]; simp [h])
    go_enter Try.func115, Try.ntmps115
    go_wp2
    go_ret
    exact ⟨ret_bool g.out.symm, rfl⟩

theorem tOk_prefix {s : ByteArray} {k : Nat} (h : (s.toList.take k).all ltr = true) (hk : ¬ k < s.size) : tOk s = decide (s.size ≤ 4) := by
  rw [take_all (by rw [size_toList]; exact hk)] at h
  simp [tOk, h]
theorem implTextOk_c (s : ByteArray) (w : World) (hs : s.size ≤ maxLen) : Calls Try.prog 94 #[.string s] w (Same (.bool (tOk s)) w) := by
  unfold maxLen at hs
  go_enter Try.func94, Try.ntmps94
  go_wp2
  go_loop [6] (fun v => ∃ k : Nat, k ≤ s.size ∧ v = .int .i64 k ∧ Hid ((s.toList.take k).all ltr = true)) (fun v => s.size - (intOf v).toNat)
  case atStart => exact ⟨0, Nat.zero_le _, rfl, rfl⟩
  case round =>
    obtain ⟨k, hk, rfl, hall⟩ := hrel
    by_cases hlt : k < s.size
    · obtain ⟨hb0, hb1⟩ := byte_le s[k]
      cases hb : inR (s[k].toNat : Int) 97 100
      · have g := Lib.hid (show tOk s = false by simp [tOk, all_no (byte_at hlt) ltr hb])
        go_wp2_with (go_at_call 104; refine (within_c _ _ _ _).mono ?_; rintro e w' ⟨rfl, rfl⟩)
        go_ret
        exact ⟨ret_bool g.out.symm, rfl⟩
      · have g := Lib.hid (show (s.toList.take (k+1)).all ltr = true by rw [all_snoc (byte_at hlt), hall.out]; exact hb)
        go_wp2_with (go_at_call 104; refine (within_c _ _ _ _).mono ?_; rintro e w' ⟨rfl, rfl⟩)
        go_round
        case rel => exact ⟨k + 1, by omega, by go_num, g⟩
        case measure => simp [intOf]; omega
    · have g := Lib.hid (tOk_prefix hall.out hlt)
      go_wp2
      go_ret
      exact ⟨ret_bool (by rw [g.out]; first | rfl | (simp; done) | (congr 1; simp; omega)), rfl⟩
theorem specTextOk_c (s : ByteArray) (w : World) (hs : s.size ≤ maxLen) : Calls Try.prog 45 #[.string s] w (Same (.bool (tOk s)) w) := by
  unfold maxLen at hs
  go_enter Try.func45, Try.ntmps45
  go_wp2
  go_loop [3] (fun v => ∃ k : Nat, k ≤ s.size ∧ v = .int .i64 k ∧ Hid ((s.toList.take k).all ltr = true)) (fun v => s.size - (intOf v).toNat)
  case atStart => exact ⟨0, Nat.zero_le _, rfl, rfl⟩
  case round =>
    obtain ⟨k, hk, rfl, hall⟩ := hrel
    by_cases hlt : k < s.size
    · obtain ⟨hb0, hb1⟩ := byte_le s[k]
      cases hb : inR (s[k].toNat : Int) 97 100
      · have g := Lib.hid (show tOk s = false by simp [tOk, all_no (byte_at hlt) ltr hb])
        go_wp2_with (go_at_call 98; refine (l6In_c _ _ _ _).mono ?_; rintro e w' ⟨rfl, rfl⟩)
        go_ret
        exact ⟨ret_bool g.out.symm, rfl⟩
      · have g := Lib.hid (show (s.toList.take (k+1)).all ltr = true by rw [all_snoc (byte_at hlt), hall.out]; exact hb)
        go_wp2_with (go_at_call 98; refine (l6In_c _ _ _ _).mono ?_; rintro e w' ⟨rfl, rfl⟩)
        go_round
        case rel => exact ⟨k + 1, by omega, by go_num, g⟩
        case measure => simp [intOf]; omega
    · have g := Lib.hid (tOk_prefix hall.out hlt)
      go_wp2
      go_ret
      exact ⟨ret_bool (by rw [g.out]; first | rfl | (simp; done) | (congr 1; simp; omega)), rfl⟩
theorem textNext_c (a : Int) (w : World) (h1 : 1 ≤ a) (h8 : a ≤ 8) : Calls Try.prog 138 #[.int .i64 a] w (Same (.int .i64 (a % 8 + 1)) w) := by
  have g : inR a 1 8 = true := by rw [inR_iff]; omega
  go_enter Try.func138, Try.ntmps138
  go_wp2_with (go_at_call 153; refine (isSlot_c _ _).mono ?_; rintro e w' ⟨rfl, rfl⟩)
  go_ret
  exact ⟨rfl, rfl⟩
theorem l1Next_c (a : Int) (w : World) (h1 : 1 ≤ a) (h8 : a ≤ 8) : Calls Try.prog 159 #[.int .i64 a] w (Same (.int .i64 (a % 8 + 1)) w) := by
  go_enter Try.func159, Try.ntmps159
  go_wp2
  go_ret
  exact ⟨rfl, rfl⟩
end Go.Proofs.Ytpobgjkmjlmafaa

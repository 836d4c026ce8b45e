/- StoreOk of the program and of the reference. -/
import Derived.Test.YtpobgjkmjlmafaaWc
namespace Go.Proofs.Ytpobgjkmjlmafaa
open Go.RowKit Go.Proofs.YtpobgjkmjlmafaaW.PrintWords
set_option linter.unusedVariables false
set_option linter.unusedSimpArgs false

theorem storeOk_no {s : List Slot} {k : Nat} {x : Slot} (h : s[k]? = some x) (hf : (slotOk x && !dupIn x (s.take k)) = false) : storeOk s = false := by
  unfold storeOk
  rw [allN_no (ltQ h) (by rw [storeAt_eq h]; exact hf)]
  rfl
theorem storeOk_step {s : List Slot} {k : Nat} {x : Slot} (h : s[k]? = some x) (hp : allN (storeAt s) k = true) (hf : (slotOk x && !dupIn x (s.take k)) = true) : allN (storeAt s) (k + 1) = true := by
  rw [allN_succ, hp, storeAt_eq h, hf]; rfl
theorem storeOk_end {s : List Slot} {k : Nat} (hp : allN (storeAt s) k = true) (hk : k ≤ s.length) (hk2 : ¬ k < s.length) : storeOk s = decide (s.length = 8) := by
  obtain rfl : k = s.length := by omega
  unfold storeOk; rw [hp]; rfl

theorem slotDup_of {x : Slot} {pre : List Slot} {a b c : Bool} (h1 : tOk x.text = true) (h2 : inR x.uses 0 99 = true) (h3 : (x.text.toList == []) = a) (h4 : (x.uses == 0) = b) (h5 : hasText x.text pre = c) :
    (slotOk x && !dupIn x pre) = ((a == b) && !(!a && c)) := by unfold slotOk dupIn; rw [h1, h2, h3, h4, h5]; rfl
set_option maxHeartbeats 2000000 in
theorem implStoreOk_c (s : List Slot) (A : Option Addr) (c : Nat) (w : World) (hs : kSlot.C w A s.length s) (hcap : s.length ≤ c) (hS : SmallS s) :
    Calls Try.prog 87 #[.slice A s.length c] w (Ret (.bool (storeOk s)) w) := by
  have HS := Lib.hid hs
  have HT := Lib.hid hS.text
  have hl := hS.len
  clear hs hS
  go_enter Try.func87, Try.ntmps87
  go_wp2
  go_loopg [7] s.length (fun g v W => ∃ k : Nat, g + k = s.length ∧ v = .int .i64 k ∧ Hid (allN (storeAt s) k = true) ∧ Bel w W)
  case atStart => exact ⟨0, rfl, rfl, rfl, Below.refl _ _⟩
  case round =>
    obtain ⟨k, hk, rfl, hp, hW⟩ := hrel
    by_cases hlt : k < s.length
    · obtain ⟨x, hx⟩ := getQ hlt
      obtain ⟨ad, rfl, hc, hc'⟩ := at_slot (Kd.C_below HS.out hW) hx
      have hsz : x.text.size ≤ maxLen := Nat.le_trans (HT.out x (List.mem_of_getElem? hx)) (by unfold maxLen; omega)
      have HZ := Lib.hid hsz
      have HX := Lib.hid hx
      have HC := Lib.hid (C_take (Kd.C_below HS.out hW) k (by omega))
      clear hx hsz
      cases h1 : tOk x.text
      · have g := Lib.hid (storeOk_no HX.out (by unfold slotOk; rw [h1]; rfl))
        go_wp2_with (go_at_call 94; refine (implTextOk_c _ _ HZ.out).mono ?_; rintro e w' ⟨rfl, rfl⟩)
        go_ret
        exact ⟨ret_bool g.out.symm, bel_alloc hW _⟩
      cases h2 : inR x.uses 0 99
      · have g := Lib.hid (storeOk_no HX.out (by unfold slotOk; rw [h1, h2]; rfl))
        go_wp2_with (first | (go_at_call 94; refine (implTextOk_c _ _ HZ.out).mono ?_; rintro e w' ⟨rfl, rfl⟩) | (go_at_call 104; refine (within_c _ _ _ _).mono ?_; rintro e w' ⟨rfl, rfl⟩))
        go_ret
        exact ⟨ret_bool g.out.symm, bel_alloc hW _⟩
      cases h3 : x.text.toList == []
      all_goals cases h4 : x.uses == 0
      all_goals cases h5 : hasText x.text (s.take k)
      all_goals
        have HSO := Lib.hid (slotDup_of h1 h2 h3 h4 h5)
        have hkc : k ≤ c := by omega
        have htl : (s.take k).length = k := by rw [List.length_take]; omega
        have HTL := Lib.hid htl
        have HCC : ∀ W B T, Bel wr W → Blk W B #[.string x.text, .int .i64 x.uses] T → Calls Try.prog 134 #[.slice (some ad) k c, .func (.func 135) #[] #[.pointer (some ⟨B, 0, none⟩)]] W (Ret (.bool (hasText x.text (s.take k))) W) := fun W B T hb hB => by
          have := contains_c (s.take k) (some ad) c x.text (.int .i64 x.uses) B T W (by rw [htl]; exact Kd.C_below HC.out hb) (by omega) hB
          rw [htl] at this
          exact this
        have HCC' := Lib.hid HCC
        clear HCC htl
        go_wp2_with (first | (go_at_call 94; refine (implTextOk_c _ _ HZ.out).mono ?_; rintro e w' ⟨rfl, rfl⟩) | (go_at_call 104; refine (within_c _ _ _ _).mono ?_; rintro e w' ⟨rfl, rfl⟩) | (go_at_call 134; refine (HCC'.out _ _ _ (bel_alloc (Below.refl _ _) _) (Blk.new _ _ _)).mono ?_; rintro e w1 ⟨rfl, hb1⟩))
        first
          | (go_ret; exact ⟨ret_bool (storeOk_no HX.out HSO.out).symm, by first | exact bel_alloc hW _ | exact (bel_alloc hW _).tr hb1⟩)
          | (go_roundg (s.length - (k + 1))
             case measure => omega
             case rel => exact ⟨k + 1, by omega, by go_num, storeOk_step HX.out hp.out HSO.out, by first | exact bel_alloc hW _ | exact (bel_alloc hW _).tr hb1⟩)
    · have g := Lib.hid (storeOk_end hp.out (by omega) hlt)
      go_wp2
      go_ret
      exact ⟨ret_bool (by rw [g.out, Bool.eq_iff_iff, beq_iff_eq, decide_eq_true_iff]; omega), hW⟩

theorem slotOk_at {x : Slot} {a b c : Bool} (h1 : tOk x.text = true) (h2 : inR x.uses 0 99 = c) (h3 : (x.text.toList == []) = a) (h4 : (x.uses == 0) = b) : slotOk x = (c && (a == b)) := by unfold slotOk; rw [h1, h2, h3, h4]; rfl
theorem dup_step {x y : Slot} {s : List Slot} {j : Nat} (hy : s[j]? = some y) (h : dupIn x (s.take j) = false) (h2 : (x.text.toList == []) = true ∨ (x.text.toList == y.text.toList) = false) : dupIn x (s.take (j + 1)) = false := by
  unfold dupIn at *
  rw [hasText_snoc hy, show (y.text.toList == x.text.toList) = (x.text.toList == y.text.toList) from BEq.comm]
  rcases h2 with h2 | h2
  · rw [h2]; rfl
  · rw [h2, Bool.or_false]; exact h
theorem dup_yes {x y : Slot} {s : List Slot} {j k : Nat} (hy : s[j]? = some y) (hjk : j < k) (h3 : (x.text.toList == []) = false) (h2 : (x.text.toList == y.text.toList) = true) : dupIn x (s.take k) = true := by
  unfold dupIn hasText
  rw [h3]
  simp only [Bool.not_false, Bool.true_and, List.any_eq_true]
  refine ⟨y, List.mem_of_getElem? (i := j) (by rw [List.getElem?_take, if_pos hjk, hy]), ?_⟩
  rw [show (y.text.toList == x.text.toList) = (x.text.toList == y.text.toList) from BEq.comm]; exact h2
theorem dup_end {x : Slot} {s : List Slot} {j k : Nat} (h : dupIn x (s.take j) = false) (hj : j ≤ k) (hk : ¬ j < k) : dupIn x (s.take k) = false := by
  obtain rfl : j = k := by omega
  exact h
set_option maxHeartbeats 4000000 in
set_option maxRecDepth 100000 in
theorem specStoreOk_c (s : List Slot) (A : Option Addr) (c : Nat) (w : World) (hs : kSlot.C w A s.length s) (hS : SmallS s) :
    Calls Try.prog 82 #[.slice A s.length c] w (Ret (.bool (storeOk s)) w) := by
  have HS := Lib.hid hs
  have HT := Lib.hid hS.text
  have hl := hS.len
  clear hs hS
  go_enter Try.func82, Try.ntmps82
  go_wp2
  go_loopg [3] s.length (fun g v W => ∃ k : Nat, g + k = s.length ∧ v = .int .i64 k ∧ Hid (allN (storeAt s) k = true) ∧ Bel w W)
  case atStart => exact ⟨0, rfl, rfl, rfl, Below.refl _ _⟩
  case round =>
    obtain ⟨k, hk, rfl, hp, hW⟩ := hrel
    by_cases hlt : k < s.length
    · obtain ⟨x, hx⟩ := getQ hlt
      obtain ⟨ad, rfl, hc, hc'⟩ := at_slot (Kd.C_below HS.out hW) hx
      have hsz : x.text.size ≤ maxLen := Nat.le_trans (HT.out x (List.mem_of_getElem? hx)) (by unfold maxLen; omega)
      have HZ := Lib.hid hsz
      have HX := Lib.hid hx
      have g0 := gb_cell hc
      have g1 := gb_cell hc'
      clear hx hsz hc hc'
      cases h1 : tOk x.text
      · have g := Lib.hid (storeOk_no HX.out (by unfold slotOk; rw [h1]; rfl))
        go_wp2
        refine wp_region_gb (by kernel_rfl) (by kernel_rfl) ?_
        repeat (first | go_big_quiet_skip | (go_big_quiet_want; go_big_quiet_op; first | go_big_quiet_on | (apply Exists.intro; refine ⟨fun _ => ?_, ?_⟩; (go_at_call 45; exact gb_same (specTextOk_c _ _ HZ.out)); go_big_quiet_on)))
        refine wpQuiet_nil ?_
        rintro _ ⟨⟨w2, hb2⟩, rfl⟩
        go_wp2
        go_ret
        exact ⟨ret_bool g.out.symm, hW.tr hb2⟩
      cases h2 : inR x.uses 0 99
      all_goals cases h3 : x.text.toList == []
      all_goals cases h4 : x.uses == 0
      all_goals
        have HSO := Lib.hid (slotOk_at h1 h2 h3 h4)
        go_wp2
        refine wp_region_gb (by kernel_rfl) (by kernel_rfl) ?_
        repeat (first | go_big_quiet_skip | (go_big_quiet_want; go_big_quiet_op; first | go_big_quiet_on | (apply Exists.intro; refine ⟨fun _ => ?_, ?_⟩; (first | (go_at_call 45; exact gb_same (specTextOk_c _ _ HZ.out)) | (go_at_call 98; exact gb_same (l6In_c _ _ _ _))); go_big_quiet_on)))
        refine wpQuiet_nil ?_
        rintro _ ⟨⟨w2, hb2⟩, rfl⟩
        clear g0 g1
        go_wp2
        first
          | (go_ret
             exact ⟨ret_bool (storeOk_no HX.out (by rw [HSO.out]; rfl)).symm, hW.tr hb2⟩)
          | (have hW2 := hW.tr hb2
             go_loopg [4] k (fun g v W => ∃ j : Nat, g + j = k ∧ v = .int .i64 j ∧ Hid (dupIn x (s.take j) = false) ∧ Bel w W)
             case atStart => exact ⟨0, rfl, rfl, by simp [Hid, dupIn, hasText], hW2⟩
             case round =>
               obtain ⟨j, hj, rfl, hd, hW3⟩ := hrel
               by_cases hjk : j < k
               · obtain ⟨y, hy⟩ := getQ (show j < s.length by omega)
                 obtain ⟨ad1, e1, hc, _⟩ := at_slot (Kd.C_below HS.out hW3) HX.out
                 cases e1
                 obtain ⟨ad2, e2, hc2, _⟩ := at_slot (Kd.C_below HS.out hW3) hy
                 cases e2
                 have HY := Lib.hid hy
                 clear hy
                 have g0 := gb_cell hc
                 have g1 := gb_cell hc2
                 clear hc hc2
                 cases h5 : x.text.toList == y.text.toList
                 all_goals
                   go_wp2
                   refine wp_region_gb (by kernel_rfl) (by kernel_rfl) ?_
                   repeat (first | go_big_quiet_skip | (go_big_quiet_want; go_big_quiet_op; go_big_quiet_on))
                   refine wpQuiet_nil ?_
                   rintro _ ⟨⟨w4, hb4⟩, rfl⟩
                   go_wp2
                   first
                     | (go_ret; exact ⟨ret_bool (storeOk_no HX.out (by rw [dup_yes HY.out hjk h3 h5]; simp)).symm, hW3.tr hb4⟩)
                     | (go_roundg (k - (j + 1))
                        case measure => omega
                        case rel => exact ⟨j + 1, by omega, by go_num, dup_step HY.out hd.out (by first | exact .inl h3 | exact .inr h5), hW3.tr hb4⟩)
               · go_wp2
                 go_roundg (s.length - (k + 1))
                 case measure => omega
                 case rel => exact ⟨k + 1, by omega, by go_num, storeOk_step HX.out hp.out (by rw [HSO.out, dup_end hd.out (by omega) hjk]; rfl), hW3⟩)
    · have g := Lib.hid (storeOk_end hp.out (by omega) hlt)
      go_wp2
      go_ret
      exact ⟨ret_bool (by rw [g.out, Bool.eq_iff_iff, beq_iff_eq, decide_eq_true_iff]; omega), hW⟩
end Go.Proofs.Ytpobgjkmjlmafaa

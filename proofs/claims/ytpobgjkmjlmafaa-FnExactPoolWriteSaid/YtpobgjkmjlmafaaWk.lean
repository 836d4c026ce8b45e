/- l2Find, l2Put of the reference. -/
import Derived.Test.YtpobgjkmjlmafaaWj
namespace Go.Proofs.Ytpobgjkmjlmafaa
open Go.RowKit Go.Proofs.YtpobgjkmjlmafaaW.PrintWords
set_option linter.unusedVariables false
set_option linter.unusedSimpArgs false

def scan (s : List Slot) (t : ByteArray) : Nat → Int → Int → Int × Bool
  | 0, _, free => (free, false)
  | n + 1, p, free => if (s.getD (p - 1).toNat Slot.z).text.toList == t.toList then (p, true)
      else scan s t n (p % 8 + 1) (if (s.getD (p - 1).toNat Slot.z).uses = 0 ∧ free = 0 then p else free)
theorem scan_bd (s : List Slot) (t : ByteArray) (n : Nat) (p free : Int) (h1 : 1 ≤ p) (h8 : p ≤ 8) (f0 : 0 ≤ free) (f8 : free ≤ 8) : 0 ≤ (scan s t n p free).1 ∧ (scan s t n p free).1 ≤ 8 := by
  induction n generalizing p free with
  | zero => exact ⟨f0, f8⟩
  | succ n ih =>
    unfold scan
    split
    · exact ⟨by omega, h8⟩
    · exact ih _ _ (by omega) (by omega) (by split <;> omega) (by split <;> omega)
def scanS (s : List Slot) (t : ByteArray) : Int × Bool := scan s t 8 (placeOf t) 0
set_option maxHeartbeats 2000000 in
theorem l2Find_c {w : World} {A : Option Addr} {c : Nat} {s : List Slot} (hC : kSlot.C w A s.length s) (hm : s.length = 8) (t : ByteArray) (ht : tOk t = true) :
    Calls Try.prog 152 #[.slice A s.length c, .string t] w (Same (.tuple #[.int .i64 (scanS s t).1, .bool (scanS s t).2]) w) := by
  have HC := Lib.hid hC
  have HT := Lib.hid ht
  have HM := Lib.hid hm
  clear hC ht hm
  have HP : Hid (scanS s t = scan s t 8 (placeOf t) 0) := rfl
  go_enter Try.func152, Try.ntmps152
  go_wp2_with (go_at_call 158; refine (l1Place_c t _ HT.out).mono ?_; rintro e w' ⟨rfl, rfl⟩)
  go_loop [6, 7, 8] (fun v6 v7 v8 => ∃ (j m f : Nat), j ≤ 8 ∧ m < 8 ∧ f ≤ 8 ∧ v8 = .int .i64 j ∧ v6 = .int .i64 ((m : Int) + 1) ∧ v7 = .int .i64 f ∧ Hid (scanS s t = scan s t (8 - j) ((m : Int) + 1) f)) (fun _ _ v => 8 - (intOf v).toNat)
  case atStart =>
    have := @placeOf_bd t
    exact ⟨0, (placeOf t - 1).toNat, 0, by omega, by omega, by omega, rfl, int_eq (by omega), rfl, by rw [show (((placeOf t - 1).toNat : Nat) : Int) + 1 = placeOf t by omega]; exact HP⟩
  case round =>
    obtain ⟨j, m, f, hj, hm8, hf8, rfl, rfl, rfl, hP⟩ := hrel
    by_cases hlt : j < 8
    · obtain ⟨x, hx⟩ := getQ (show m < s.length by rw [HM.out]; exact hm8)
      obtain ⟨ad, rfl, hc, hc'⟩ := at_slot HC.out hx
      have hmi : ((m : Int) + 1 - 1).toNat = m := by omega
      have hml : m < s.length := by rw [HM.out]; exact hm8
      cases he : x.text.toList == t.toList
      · have HQ : ∀ f2 : Nat, (if x.uses = 0 ∧ (f : Int) = 0 then (m : Int) + 1 else f) = (f2 : Int) → scanS s t = scan s t (8 - (j + 1)) ((((m + 1) % 8 : Nat) : Int) + 1) f2 := fun f2 hf2 => by
          rw [hP.out, show 8 - j = (7 - j) + 1 by omega]
          conv => lhs; unfold scan
          rw [hmi, getD_of hx, if_neg (by rw [he]; decide), show 7 - j = 8 - (j + 1) by omega, hf2]
          congr 1 <;> omega
        have HQ' := Lib.hid HQ
        clear HQ hmi hx
        by_cases h0 : x.uses = 0
        · have H0 := Lib.hid h0
          rw [h0] at hc'
          by_cases hf0 : f = 0
          · subst hf0
            clear h0
            go_wp2_with (go_at_call 159; refine (l1Next_c _ _ (by omega) (by omega)).mono ?_; rintro e w' ⟨rfl, rfl⟩)
            go_round
            case rel => exact ⟨j + 1, (m + 1) % 8, m + 1, by omega, by omega, by omega, by go_num, int_eq (by omega), int_eq (by omega), HQ'.out _ (by rw [if_pos ⟨H0.out, rfl⟩]; omega)⟩
            case measure => simp [intOf]; omega
          · have hf1 : (f : Int) ≠ 0 := by omega
            have hfb : ((f : Int) == 0) = false := by simpa using hf1
            clear h0
            go_wp2_with (go_at_call 159; refine (l1Next_c _ _ (by omega) (by omega)).mono ?_; rintro e w' ⟨rfl, rfl⟩)
            go_round
            case rel => exact ⟨j + 1, (m + 1) % 8, f, by omega, by omega, by omega, by go_num, int_eq (by omega), rfl, HQ'.out _ (by rw [if_neg (fun h => hf1 h.2)])⟩
            case measure => simp [intOf]; omega
        · have hub : (x.uses == 0) = false := by simpa using h0
          have H0 := Lib.hid h0
          clear h0
          go_wp2_with (go_at_call 159; refine (l1Next_c _ _ (by omega) (by omega)).mono ?_; rintro e w' ⟨rfl, rfl⟩)
          go_round
          case rel => exact ⟨j + 1, (m + 1) % 8, f, by omega, by omega, by omega, by go_num, int_eq (by omega), rfl, HQ'.out _ (by rw [if_neg (fun h => H0.out h.1)])⟩
          case measure => simp [intOf]; omega
      · have HQ := Lib.hid (show scanS s t = ((m : Int) + 1, true) by
          rw [hP.out, show 8 - j = (7 - j) + 1 by omega]
          unfold scan
          rw [hmi, getD_of hx, if_pos he])
        clear hmi hx
        go_wp2
        go_ret2
        exact ⟨by rw [HQ.out]; rfl, rfl⟩
    · have HQ := Lib.hid (show scanS s t = ((f : Int), false) by rw [hP.out, show 8 - j = 0 by omega]; rfl)
      go_wp2
      go_ret2
      exact ⟨by rw [HQ.out]; rfl, rfl⟩

def putAt2 (s : List Slot) (t : ByteArray) : Int := if (scanS s t).1 = 0 ∨ 99 ≤ (s.getD ((scanS s t).1 - 1).toNat Slot.z).uses then 0 else (scanS s t).1
set_option maxHeartbeats 2000000 in
theorem l2Put_c {w : World} {base : Nat} {v : Value} {s : List Slot} (h : OwnS w base v s) (hm : s.length = 8) (hu : ∀ x ∈ s, 0 ≤ x.uses ∧ x.uses ≤ 99) (t : ByteArray) (ht : tOk t = true) :
    Calls Try.prog 136 #[v, .string t] w (Wrote (.tuple #[v, .int .i64 (putAt2 s t), .bool (putAt2 s t != 0)]) w base v (moreS s t (putAt2 s t))) := by
  obtain ⟨A, c, rfl, hc, hC⟩ := h.reads
  have H := Lib.hid h
  have HM := Lib.hid hm
  have hb := scan_bd s t 8 (placeOf t) 0 (placeOf_bd).1 (placeOf_bd).2 (by omega) (by omega)
  have HF := Lib.hid (l2Find_c (c := c) hC hm t ht)
  have HU := Lib.hid hu
  clear h hC hm ht hu
  obtain ⟨p, fl, hp⟩ : ∃ p fl, scanS s t = (p, fl) := ⟨_, _, rfl⟩
  have HF2 : Calls Try.prog 152 #[.slice A s.length c, .string t] w (Same (.tuple #[.int .i64 p, .bool fl]) w) := by have := HF.out; rw [hp] at this; exact this
  have hb2 : 0 ≤ p ∧ p ≤ 8 := by have h := hb; rw [show scan s t 8 (placeOf t) 0 = (p, fl) from hp] at h; exact h
  have HP := Lib.hid hp
  have HF3 := Lib.hid HF2
  clear hp HF2 hb HF
  by_cases h0 : p = 0
  · subst h0
    have HQ := Lib.hid (show putAt2 s t = 0 by unfold putAt2; rw [HP.out, if_pos (.inl rfl)])
    go_enter Try.func136, Try.ntmps136
    go_wp2_with (go_at_call 152; refine HF3.out.mono ?_; rintro e w' ⟨rfl, rfl⟩)
    go_ret3
    exact ⟨by rw [HQ.out]; rfl, by rw [HQ.out]; unfold moreS; rw [if_pos rfl]; exact H.out, grown_refl _ _⟩
  · obtain ⟨m, rfl⟩ : ∃ m : Nat, p = (m : Int) + 1 := ⟨(p - 1).toNat, by omega⟩
    have hmi : ((m : Int) + 1 - 1).toNat = m := by omega
    have hml : m < s.length := by rw [HM.out]; omega
    obtain ⟨x, hx⟩ := getQ hml
    obtain ⟨g, cap, ev, hb, hg, hcap, hcc, hcc', hf, hf'⟩ := OwnS.at H.out hx
    obtain ⟨rfl, -, rfl⟩ := by simpa using ev
    have hux := HU.out x (List.mem_of_getElem? hx)
    by_cases h99 : 99 ≤ x.uses
    · have HQ := Lib.hid (show putAt2 s t = 0 by unfold putAt2; rw [HP.out]; simp only; rw [hmi, getD_of hx, if_pos (.inr h99)])
      have hd : decide (99 ≤ x.uses) = true := by simpa using h99
      clear hx hmi h0
      go_enter Try.func136, Try.ntmps136
      go_wp2_with (go_at_call 152; refine HF3.out.mono ?_; rintro e w' ⟨rfl, rfl⟩)
      go_ret3
      exact ⟨by rw [HQ.out]; rfl, by rw [HQ.out]; unfold moreS; rw [if_pos rfl]; exact H.out, grown_refl _ _⟩
    · have HQ := Lib.hid (show putAt2 s t = (m : Int) + 1 by unfold putAt2; rw [HP.out]; simp only; rw [hmi, getD_of hx, if_neg (by omega)])
      have HS := Lib.hid (show moreS s t (putAt2 s t) = s.set m ⟨t, x.uses + 1⟩ by rw [HQ.out]; unfold moreS; rw [if_neg h0, hmi, getD_of hx])
      have HX := Lib.hid hx
      have hb0 : ((m : Int) + 1 == 0) = false := by simpa using h0
      clear hx hmi h0
      go_enter Try.func136, Try.ntmps136
      go_wp2_with (go_at_call 152; refine HF3.out.mono ?_; rintro e w' ⟨rfl, rfl⟩)
      go_ret3
      have hs := OwnS.setTU H.out HX.out t (x.uses + 1)
      exact ⟨by rw [HQ.out]; first | rfl | simp [hb0], by rw [HS.out]; exact hs.1, hs.2⟩
end Go.Proofs.Ytpobgjkmjlmafaa

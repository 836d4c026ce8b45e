/- StoreOk, find, isAsked, StoreFind of the program; StoreOk of the reference. -/
import Derived.Test.YtpobgjkmjlmafaaWb
namespace Go.Proofs.Ytpobgjkmjlmafaa
open Go.RowKit Go.Proofs.YtpobgjkmjlmafaaW.PrintWords
set_option linter.unusedVariables false
set_option linter.unusedSimpArgs false

theorem storeClo_c (x : Slot) (t : ByteArray) (u : Value) (B : Nat) (T : TypeId) (w : World) (hB : Blk w B #[.string t, u] T) :
    Calls Try.prog 135 #[.agg #[.string x.text, .int .i64 x.uses], .pointer (some ⟨B, 0, none⟩)] w (Ret (.bool (x.text.toList == t.toList)) w) := by
  have h0 := hB.cell 0
  have hl := hB.lt
  simp at h0
  go_enter Try.func135, Try.ntmps135
  go_wp2
  go_ret
  exact ⟨rfl, bel_alloc (Below.refl _ _) _⟩
theorem findClo_c (x : Slot) (t : ByteArray) (B : Nat) (T : TypeId) (w : World) (hB : Blk w B #[.string t] T) :
    Calls Try.prog 140 #[.agg #[.string x.text, .int .i64 x.uses], .pointer (some ⟨B, 0, none⟩)] w (Ret (.bool (x.text.toList == t.toList)) w) := by
  have h0 := hB.cell 0
  have hl := hB.lt
  simp at h0
  go_enter Try.func140, Try.ntmps140
  go_wp2
  go_ret
  exact ⟨rfl, bel_alloc (Below.refl _ _) _⟩
theorem hasText_zero (t : ByteArray) (s : List Slot) : hasText t (s.take 0) = false := rfl

set_option maxHeartbeats 1000000 in
theorem indexStore_c (s : List Slot) (A : Option Addr) (c : Nat) (t : ByteArray) (u : Value) (B : Nat) (T : TypeId) (w : World) (hs : kSlot.C w A s.length s) (hl : s.length ≤ 1048576) (hB : Blk w B #[.string t, u] T) :
    Calls Try.prog 139 #[.slice A s.length c, .func (.func 135) #[] #[.pointer (some ⟨B, 0, none⟩)]] w (Ret (.int .i64 (idx (fun o => o.text.toList == t.toList) s)) w) := by
  have HS := Lib.hid hs
  clear hs
  go_enter Try.func139, Try.ntmps139
  go_wp2
  go_loopg [8] s.length (fun g v W => ∃ k : Nat, g + k = s.length ∧ v = .int .i64 k ∧ Hid ((s.take k).any (fun o => o.text.toList == t.toList) = false) ∧ Bel w W)
  case atStart => exact ⟨0, rfl, rfl, rfl, Below.refl _ _⟩
  case round =>
    obtain ⟨k, hk, rfl, hn, hW⟩ := hrel
    by_cases hlt : k < s.length
    · obtain ⟨x, hx⟩ := getQ hlt
      obtain ⟨ad, rfl, hc, hc'⟩ := at_slot (Kd.C_below HS.out hW) hx
      cases ht : x.text.toList == t.toList
      · have g := Lib.hid (show (s.take (k + 1)).any (fun o => o.text.toList == t.toList) = false by rw [any_snoc hx, hn.out, ht]; rfl)
        clear hx
        go_wp2_with (go_at_call 135; refine (storeClo_c x t u B T _ (hB.bel hW)).mono ?_; rintro e w1 ⟨rfl, hb1⟩)
        go_roundg (s.length - (k + 1))
        case measure => omega
        case rel => exact ⟨k + 1, by omega, by go_num, g, hW.tr hb1⟩
      · have g := Lib.hid (idx_hit (f := fun o : Slot => o.text.toList == t.toList) hx hn.out ht)
        clear hx
        go_wp2_with (go_at_call 135; refine (storeClo_c x t u B T _ (hB.bel hW)).mono ?_; rintro e w1 ⟨rfl, hb1⟩)
        go_ret
        exact ⟨ret_int g.out.symm, hW.tr hb1⟩
    · have g := Lib.hid (idx_none (take_all hlt ▸ hn.out))
      go_wp2
      go_ret
      exact ⟨ret_int g.out.symm, hW⟩
set_option maxHeartbeats 1000000 in
theorem indexFind_c (s : List Slot) (A : Option Addr) (c : Nat) (t : ByteArray) (B : Nat) (T : TypeId) (w : World) (hs : kSlot.C w A s.length s) (hl : s.length ≤ 1048576) (hB : Blk w B #[.string t] T) :
    Calls Try.prog 139 #[.slice A s.length c, .func (.func 140) #[] #[.pointer (some ⟨B, 0, none⟩)]] w (Ret (.int .i64 (idx (fun o => o.text.toList == t.toList) s)) w) := by
  have HS := Lib.hid hs
  clear hs
  go_enter Try.func139, Try.ntmps139
  go_wp2
  go_loopg [8] s.length (fun g v W => ∃ k : Nat, g + k = s.length ∧ v = .int .i64 k ∧ Hid ((s.take k).any (fun o => o.text.toList == t.toList) = false) ∧ Bel w W)
  case atStart => exact ⟨0, rfl, rfl, rfl, Below.refl _ _⟩
  case round =>
    obtain ⟨k, hk, rfl, hn, hW⟩ := hrel
    by_cases hlt : k < s.length
    · obtain ⟨x, hx⟩ := getQ hlt
      obtain ⟨ad, rfl, hc, hc'⟩ := at_slot (Kd.C_below HS.out hW) hx
      cases ht : x.text.toList == t.toList
      · have g := Lib.hid (show (s.take (k + 1)).any (fun o => o.text.toList == t.toList) = false by rw [any_snoc hx, hn.out, ht]; rfl)
        clear hx
        go_wp2_with (go_at_call 140; refine (findClo_c x t B T _ (hB.bel hW)).mono ?_; rintro e w1 ⟨rfl, hb1⟩)
        go_roundg (s.length - (k + 1))
        case measure => omega
        case rel => exact ⟨k + 1, by omega, by go_num, g, hW.tr hb1⟩
      · have g := Lib.hid (idx_hit (f := fun o : Slot => o.text.toList == t.toList) hx hn.out ht)
        clear hx
        go_wp2_with (go_at_call 140; refine (findClo_c x t B T _ (hB.bel hW)).mono ?_; rintro e w1 ⟨rfl, hb1⟩)
        go_ret
        exact ⟨ret_int g.out.symm, hW.tr hb1⟩
    · have g := Lib.hid (idx_none (take_all hlt ▸ hn.out))
      go_wp2
      go_ret
      exact ⟨ret_int g.out.symm, hW⟩

theorem contains_c (s : List Slot) (A : Option Addr) (c : Nat) (t : ByteArray) (u : Value) (B : Nat) (T : TypeId) (w : World) (hs : kSlot.C w A s.length s) (hl : s.length ≤ 1048576) (hB : Blk w B #[.string t, u] T) :
    Calls Try.prog 134 #[.slice A s.length c, .func (.func 135) #[] #[.pointer (some ⟨B, 0, none⟩)]] w (Ret (.bool (hasText t s)) w) := by
  have HB := Lib.hid hB
  have HS := Lib.hid hs
  have hi := idx_bd (fun o : Slot => o.text.toList == t.toList) s
  have g := Lib.hid hi.2.2
  replace hi : -1 ≤ idx (fun o : Slot => o.text.toList == t.toList) s ∧ idx (fun o : Slot => o.text.toList == t.toList) s < s.length := ⟨hi.1, hi.2.1⟩
  clear hB hs
  go_enter Try.func134, Try.ntmps134
  go_wp2_with (go_at_call 139; refine (indexStore_c s A c t u B T _ HS.out hl HB.out).mono ?_; rintro e w1 ⟨rfl, hb1⟩)
  go_ret
  exact ⟨ret_bool (by have := g.out; unfold hasText; rw [Bool.eq_iff_iff, decide_eq_true_iff]; exact this), hb1⟩
theorem find_c (s : List Slot) (A : Option Addr) (c : Nat) (t : ByteArray) (w : World) (hs : kSlot.C w A s.length s) (hl : s.length ≤ 1048576) :
    Calls Try.prog 100 #[.slice A s.length c, .string t] w (Ret (.int .i64 (idx (fun o => o.text.toList == t.toList) s + 1)) w) := by
  have HS := Lib.hid hs
  have hi := idx_bd (fun o : Slot => o.text.toList == t.toList) s
  replace hi : -1 ≤ idx (fun o : Slot => o.text.toList == t.toList) s ∧ idx (fun o : Slot => o.text.toList == t.toList) s < s.length := ⟨hi.1, hi.2.1⟩
  clear hs
  go_enter Try.func100, Try.ntmps100
  go_wp2_with (go_at_call 139; refine (indexFind_c s A c t _ _ _ (Kd.C_alloc HS.out _) hl (Blk.new _ _ _)).mono ?_; rintro e w1 ⟨rfl, hb1⟩)
  go_ret
  exact ⟨rfl, (bel_alloc (Below.refl _ _) _).tr hb1⟩
end Go.Proofs.Ytpobgjkmjlmafaa

/- eqSlot, eqIntS, eqVol, .., eqPool at two values that read the same: true. -/
import Derived.Test.YtpobgjkmjlmafaaWg
namespace Go.Proofs.Ytpobgjkmjlmafaa
open Go.RowKit Go.Proofs.YtpobgjkmjlmafaaW.PrintWords
set_option linter.unusedVariables false
set_option linter.unusedSimpArgs false

set_option maxHeartbeats 1000000 in
theorem eqSlot_c (x : Slot) (w : World) : Calls Try.prog 126 #[.agg #[.string x.text, .int .i64 x.uses], .agg #[.string x.text, .int .i64 x.uses]] w (Ret (.bool true) w) := by
  have h1 : (x.text.toList == x.text.toList) = true := by simp
  go_enter Try.func126, Try.ntmps126
  go_wp2
  go_ret
  exact ⟨rfl, bel_alloc (bel_alloc (Below.refl _ _) _) _⟩
set_option maxHeartbeats 2000000 in
theorem eqIntS_c {w : World} {A A' : Option Addr} {c c' : Nat} {xs : List Int} (hC : kInt.C w A xs.length xs) (hC' : kInt.C w A' xs.length xs) (hl : xs.length ≤ 1048576) :
    Calls Try.prog 150 #[.slice A xs.length c, .slice A' xs.length c'] w (Ret (.bool true) w) := by
  have H := Lib.hid hC
  have H' := Lib.hid hC'
  clear hC hC'
  go_enter Try.func150, Try.ntmps150
  go_wp2
  go_loopg [5] xs.length (fun g v W => ∃ k : Nat, g + k = xs.length ∧ v = .int .i64 k ∧ Bel w W)
  case atStart => exact ⟨0, rfl, rfl, Below.refl _ _⟩
  case round =>
    obtain ⟨k, hk, rfl, hW⟩ := hrel
    by_cases hlt : k < xs.length
    · obtain ⟨x, hx⟩ := getQ hlt
      obtain ⟨ad, rfl, hc⟩ := at_int (Kd.C_below H.out hW) hx
      obtain ⟨ad2, rfl, hc2⟩ := at_int (Kd.C_below H'.out hW) hx
      have g0 := gb_cell hc
      have g1 := gb_cell hc2
      clear hx hc hc2
      go_wp2
      refine wp_region_gb (by kernel_rfl) (by kernel_rfl) ?_
      repeat (first | go_big_quiet_skip | (go_big_quiet_want; go_big_quiet_op; go_big_quiet_on))
      refine wpQuiet_nil ?_
      rintro _ ⟨⟨w4, hb4⟩, rfl⟩
      go_wp2
      go_roundg (xs.length - (k + 1))
      case measure => omega
      case rel => exact ⟨k + 1, by omega, by go_num, hW.tr hb4⟩
    · go_wp2
      go_ret
      exact ⟨rfl, hW⟩
set_option maxHeartbeats 1000000 in
theorem eqVol_c {w : World} {A A' : Option Addr} {c c' : Nat} {v : Vol} (hC : kInt.C w A v.blocks.length v.blocks) (hC' : kInt.C w A' v.blocks.length v.blocks) (hl : v.blocks.length ≤ 1048576) :
    Calls Try.prog 127 #[.agg #[.string v.name, .slice A v.blocks.length c], .agg #[.string v.name, .slice A' v.blocks.length c']] w (Ret (.bool true) w) := by
  have H := Lib.hid hC
  have H' := Lib.hid hC'
  clear hC hC'
  have h1 : (v.name.toList == v.name.toList) = true := by simp
  go_enter Try.func127, Try.ntmps127
  go_wp2_with fail
  refine (eqIntS_c (Kd.C_alloc (Kd.C_alloc H.out _) _) (Kd.C_alloc (Kd.C_alloc H'.out _) _) hl).mono ?_
  rintro e w1 ⟨rfl, hb1⟩
  go_wp2
  go_ret
  exact ⟨rfl, (bel_alloc (bel_alloc (Below.refl _ _) _) _).tr hb1⟩
set_option maxHeartbeats 2000000 in
theorem eqSlotS_c {w : World} {A A' : Option Addr} {c c' : Nat} {xs : List Slot} (hC : kSlot.C w A xs.length xs) (hC' : kSlot.C w A' xs.length xs) (hl : xs.length ≤ 1048576) :
    Calls Try.prog 72 #[.slice A xs.length c, .slice A' xs.length c'] w (Ret (.bool true) w) := by
  have H := Lib.hid hC
  have H' := Lib.hid hC'
  clear hC hC'
  go_enter Try.func72, Try.ntmps72
  go_wp2
  go_loopg [5] xs.length (fun g v W => ∃ k : Nat, g + k = xs.length ∧ v = .int .i64 k ∧ Bel w W)
  case atStart => exact ⟨0, rfl, rfl, Below.refl _ _⟩
  case round =>
    obtain ⟨k, hk, rfl, hW⟩ := hrel
    by_cases hlt : k < xs.length
    · obtain ⟨x, hx⟩ := getQ hlt
      obtain ⟨ad, rfl, hc, hd⟩ := at_slot (Kd.C_below H.out hW) hx
      obtain ⟨ad2, rfl, hc2, hd2⟩ := at_slot (Kd.C_below H'.out hW) hx
      have g0 := gb_cell hc
      have g1 := gb_cell hc2
      have g2 := gb_cell hd
      have g3 := gb_cell hd2
      clear hx hc hc2 hd hd2
      go_wp2
      refine wp_region_gb (by kernel_rfl) (by kernel_rfl) ?_
      repeat (first | go_big_quiet_skip | (go_big_quiet_want; go_big_quiet_op; first | go_big_quiet_on | (apply Exists.intro; refine ⟨fun _ => ?_, ?_⟩; (go_at_call 126; exact gb_call (eqSlot_c _ _)); go_big_quiet_on)))
      refine wpQuiet_nil ?_
      rintro _ ⟨⟨w4, hb4⟩, rfl⟩
      go_wp2
      go_roundg (xs.length - (k + 1))
      case measure => omega
      case rel => exact ⟨k + 1, by omega, by go_num, hW.tr hb4⟩
    · go_wp2
      go_ret
      exact ⟨rfl, hW⟩
set_option maxHeartbeats 2000000 in
theorem eqVolS_c {w : World} {A A' : Option Addr} {c c' : Nat} {xs : List Vol} (hC : kVol.C w A xs.length xs) (hC' : kVol.C w A' xs.length xs) (hs : SmallV xs) :
    Calls Try.prog 73 #[.slice A xs.length c, .slice A' xs.length c'] w (Ret (.bool true) w) := by
  have H := Lib.hid hC
  have H' := Lib.hid hC'
  have HS := Lib.hid hs
  have hl := hs.len
  clear hC hC' hs
  go_enter Try.func73, Try.ntmps73
  go_wp2
  go_loopg [5] xs.length (fun g v W => ∃ k : Nat, g + k = xs.length ∧ v = .int .i64 k ∧ Bel w W)
  case atStart => exact ⟨0, rfl, rfl, Below.refl _ _⟩
  case round =>
    obtain ⟨k, hk, rfl, hW⟩ := hrel
    by_cases hlt : k < xs.length
    · obtain ⟨x, hx⟩ := getQ hlt
      obtain ⟨ad, A1, n1, rfl, hc, hd, hn1, hC1⟩ := at_vol (Kd.C_below H.out hW) hx
      obtain ⟨ad2, A2, n2, rfl, hc2, hd2, hn2, hC2⟩ := at_vol (Kd.C_below H'.out hW) hx
      have hx1 : x.blocks.length ≤ 1048576 := HS.out.blocks x (List.mem_of_getElem? hx)
      have HE : Hid (∀ p : GB wr, Calls Try.prog 127 #[.agg #[.string x.name, .slice A1 x.blocks.length n1], .agg #[.string x.name, .slice A2 x.blocks.length n2]] p.W (Ret (.bool true) p.W)) := fun p => eqVol_c (Kd.C_below hC1 p.h) (Kd.C_below hC2 p.h) hx1
      have g0 := gb_cell hc
      have g1 := gb_cell hc2
      have g2 := gb_cell hd
      have g3 := gb_cell hd2
      clear hx hc hc2 hd hd2 hC1 hC2
      go_wp2
      refine wp_region_gb (by kernel_rfl) (by kernel_rfl) ?_
      repeat (first | go_big_quiet_skip | (go_big_quiet_want; go_big_quiet_op; first | go_big_quiet_on | (apply Exists.intro; refine ⟨fun _ => ?_, ?_⟩; (go_at_call 127; exact gb_call (HE.out _)); go_big_quiet_on)))
      refine wpQuiet_nil ?_
      rintro _ ⟨⟨w4, hb4⟩, rfl⟩
      go_wp2
      go_roundg (xs.length - (k + 1))
      case measure => omega
      case rel => exact ⟨k + 1, by omega, by go_num, hW.tr hb4⟩
    · go_wp2
      go_ret
      exact ⟨rfl, hW⟩
set_option maxHeartbeats 1000000 in
theorem eqPool_c {w : World} {A0 A1 B0 B1 : Option Addr} {c0 c1 d0 d1 : Nat} {p : Pool} (h : PoolIn w A0 A1 c0 c1 p) (h' : PoolIn w B0 B1 d0 d1 p) (hs : SmallP p) :
    Calls Try.prog 28 #[.agg #[.slice A0 p.slots.length c0, .slice A1 p.vols.length c1], .agg #[.slice B0 p.slots.length d0, .slice B1 p.vols.length d1]] w (Ret (.bool true) w) := by
  have H := Lib.hid h
  have H' := Lib.hid h'
  have HS := Lib.hid hs
  clear h h' hs
  go_enter Try.func28, Try.ntmps28
  go_wp2_with fail
  refine (eqSlotS_c ((H.out.alloc _).alloc _).s ((H'.out.alloc _).alloc _).s HS.out.slots.len).mono ?_
  rintro e w1 ⟨rfl, hb1⟩
  have hB : Blk ((w.alloc (.cells #[.slice A0 p.slots.length c0, .slice A1 p.vols.length c1] 30)).alloc (.cells #[.slice B0 p.slots.length d0, .slice B1 p.vols.length d1] 30)) w.heap.size #[.slice A0 p.slots.length c0, .slice A1 p.vols.length c1] 30 := (Blk.new _ _ _).alloc _
  have hB' := Blk.new2 w (.cells #[.slice A0 p.slots.length c0, .slice A1 p.vols.length c1] 30) #[.slice B0 p.slots.length d0, .slice B1 p.vols.length d1] 30
  have hw1 := (bel_alloc (bel_alloc (Below.refl _ w) (.cells #[.slice A0 p.slots.length c0, .slice A1 p.vols.length c1] 30)) (.cells #[.slice B0 p.slots.length d0, .slice B1 p.vols.length d1] 30) : Bel w _).tr hb1
  have q1 := (hB.bel hb1).cell 1
  have q2 := (hB'.bel hb1).cell 1
  simp at q1 q2
  have HW1 := Lib.hid hw1
  clear hB hB' hb1 hw1
  go_wp2_with fail
  refine (eqVolS_c (H.out.bel HW1.out).v (H'.out.bel HW1.out).v HS.out.vols).mono ?_
  rintro e w2 ⟨rfl, hb2⟩
  have HW2 := Lib.hid (HW1.out.tr hb2)
  clear hb2
  go_wp2
  go_ret
  exact ⟨rfl, HW2.out⟩
end Go.Proofs.Ytpobgjkmjlmafaa

/- PoolOk of the reference and of the program. -/
import Derived.Test.YtpobgjkmjlmafaaWd
namespace Go.Proofs.Ytpobgjkmjlmafaa
open Go.RowKit Go.Proofs.YtpobgjkmjlmafaaW.PrintWords
set_option linter.unusedVariables false
set_option linter.unusedSimpArgs false

theorem poolOk_noS {p : Pool} (h : storeOk p.slots = false) : poolOk p = false := by unfold poolOk; rw [h]; rfl
theorem poolOk_noL {p : Pool} (h : ¬ p.vols.length ≤ 4) : poolOk p = false := by unfold poolOk; simp [h]
theorem volsAt_eq {vs : List Vol} {k : Nat} {x : Vol} (h : vs[k]? = some x) : volsAt vs k = (volOk x && !(decide (0 < k) && !Op.bytesLess (vs.getD (k - 1) Vol.z).name.toList x.name.toList)) := by unfold volsAt; rw [getD_of h]
theorem volsAt_eq0 {vs : List Vol} {k : Nat} {x : Vol} (h : vs[k]? = some x) (hk : ¬ 0 < k) : volsAt vs k = volOk x := by rw [volsAt_eq h]; simp [hk]
theorem volsAt_eq1 {vs : List Vol} {k : Nat} {x y : Vol} (h : vs[k]? = some x) (hk : 0 < k) (hy : vs[k - 1]? = some y) : volsAt vs k = (volOk x && Op.bytesLess y.name.toList x.name.toList) := by
  rw [volsAt_eq h, getD_of hy]; simp [hk]
theorem poolOk_noV {p : Pool} {k : Nat} (h : k < p.vols.length) (hf : volsAt p.vols k = false) : poolOk p = false := by
  unfold poolOk; rw [allN_no h hf]; simp
theorem poolOk_noU {p : Pool} {k : Nat} (h : k < 8) (hf : usesAt p k = false) : poolOk p = false := by
  unfold poolOk; rw [allN_no h hf]; simp
theorem poolOk_yes {p : Pool} (h1 : storeOk p.slots = true) (h2 : p.vols.length ≤ 4) (h3 : allN (volsAt p.vols) p.vols.length = true) (h4 : allN (usesAt p) 8 = true) : poolOk p = true := by
  unfold poolOk; rw [h1, h3, h4]; simp [h2]
theorem allN_step {f : Nat → Bool} {k : Nat} (h : allN f k = true) (hf : f k = true) : allN f (k + 1) = true := by rw [allN_succ, h, hf]; rfl
theorem SmallV.at {vs : List Vol} (h : SmallV vs) {k : Nat} {x : Vol} (hx : vs[k]? = some x) : x.blocks.length ≤ 1048576 ∧ x.name.size ≤ 1048576 := ⟨h.blocks x (List.mem_of_getElem? hx), h.name x (List.mem_of_getElem? hx)⟩
theorem usesAt_eq {p : Pool} {k : Nat} {x : Slot} (h : p.slots[k]? = some x) : usesAt p k = (x.uses == uses ((k : Int) + 1) p.vols) := by unfold usesAt; rw [getD_of h]

set_option maxHeartbeats 4000000 in
set_option maxRecDepth 100000 in
theorem specPoolOk_c (p : Pool) (A0 A1 : Option Addr) (c0 c1 : Nat) (w : World) (h0 : kSlot.C w A0 p.slots.length p.slots) (h1 : kVol.C w A1 p.vols.length p.vols) (hs : SmallP p) :
    Calls Try.prog 34 #[.agg #[.slice A0 p.slots.length c0, .slice A1 p.vols.length c1]] w (Ret (.bool (poolOk p)) w) := by
  have H0 := Lib.hid h0
  have H1 := Lib.hid h1
  have HP := Lib.hid hs
  clear h0 h1 hs
  cases hst : storeOk p.slots
  · have g := Lib.hid (poolOk_noS hst)
    go_enter Try.func34, Try.ntmps34
    go_wp2_with (go_at_call 82; refine (specStoreOk_c _ _ _ _ (Kd.C_alloc H0.out _) HP.out.slots).mono ?_; rintro e w1 ⟨rfl, hb1⟩)
    go_ret
    exact ⟨ret_bool g.out.symm, (bel_alloc (Below.refl _ _) _).tr hb1⟩
  have H8 := Lib.hid (storeOk_len hst)
  have HST := Lib.hid hst
  by_cases h4 : p.vols.length ≤ 4
  case neg =>
    have g := Lib.hid (poolOk_noL h4)
    go_enter Try.func34, Try.ntmps34
    go_wp2_with (go_at_call 82; refine (specStoreOk_c _ _ _ _ (Kd.C_alloc H0.out _) HP.out.slots).mono ?_; rintro e w1 ⟨rfl, hb1⟩; obtain ⟨hc1, hf1⟩ := bcell hb1)
    go_ret
    exact ⟨ret_bool g.out.symm, (bel_alloc (Below.refl _ _) _).tr hb1⟩
  go_enter Try.func34, Try.ntmps34
  go_wp2_with (go_at_call 82; refine (specStoreOk_c _ _ _ _ (Kd.C_alloc H0.out _) HP.out.slots).mono ?_; rintro e w1 ⟨rfl, hb1⟩; obtain ⟨hc1, hf1⟩ := bcell hb1)
  clear hc1 hf1
  go_loopg [3] p.vols.length (fun g v3 W => ∃ k : Nat, g + k = p.vols.length ∧ v3 = .int .i64 k ∧ Hid (allN (volsAt p.vols) k = true) ∧ Blk W w.heap.size #[.slice A0 p.slots.length c0, .slice A1 p.vols.length c1] 30 ∧ Bel w W)
  case atStart => exact ⟨0, rfl, rfl, rfl, (Blk.new _ _ _).bel hb1, (bel_alloc (Below.refl _ _) _).tr hb1⟩
  case round =>
    obtain ⟨k, hk, rfl, hO, hB, hW⟩ := hrel
    have q0 := hB.cell 0
    have q1 := hB.cell 1
    have hz := hB.lt
    simp at q0 q1
    by_cases hlt : k < p.vols.length
    · obtain ⟨x, hx⟩ := getQ hlt
      obtain ⟨ad, A2, n1, rfl, hc, hc', hn, hC⟩ := at_vol (Kd.C_below H1.out hW) hx
      obtain ⟨hxb, hxn⟩ := HP.out.vols.at hx
      have HX := Lib.hid hx
      clear hx
      have g0 := gb_cell q0
      have g1 := gb_cell q1
      have g2 := gb_cell hc
      have g3 := gb_cell hc'
      by_cases hk0 : 0 < k
      case neg =>
        cases hv : volOk x
        all_goals
          have HV := Lib.hid ((volsAt_eq0 HX.out hk0).trans hv)
          go_wp2
          refine wp_region_gb (by kernel_rfl) (by kernel_rfl) ?_
          repeat (first | go_big_quiet_skip | (go_big_quiet_want; go_big_quiet_op; first | go_big_quiet_on | (apply Exists.intro; refine ⟨fun _ => ?_, ?_⟩; (go_at_call 83; exact gb_call (specVolOk_c x _ _ _ (Kd.C_below hC (GB.h _)) hxb hxn)); go_big_quiet_on)))
          refine wpQuiet_nil ?_
          rintro _ ⟨⟨w2, hb2⟩, rfl⟩
          go_wp2
          first
            | (go_ret; exact ⟨ret_bool (poolOk_noV (ltQ HX.out) HV.out).symm, hW.tr hb2⟩)
            | (go_roundg (p.vols.length - (k + 1))
               case measure => omega
               case rel => exact ⟨k + 1, by omega, by go_num, allN_step hO.out HV.out, hB.bel hb2, hW.tr hb2⟩)
      obtain ⟨y, hy⟩ := getQ (show k - 1 < p.vols.length by omega)
      obtain ⟨ad2, A3, n3, e2, hc2, hc2', hn2, hC2⟩ := at_vol (Kd.C_below H1.out hW) hy
      cases e2
      have g4 := gb_cell hc2
      have HY := Lib.hid hy
      have hnn : 0 ≤ (k : Int) - 1 := by omega
      have htn : ((k : Int) - 1).toNat = k - 1 := by omega
      have hlt1 : (k : Int) - 1 < p.vols.length := by omega
      clear hy
      cases hv : volOk x
      all_goals cases hlss : Op.bytesLess y.name.toList x.name.toList
      all_goals
        have HV := Lib.hid ((volsAt_eq1 HX.out hk0 HY.out).trans (by rw [hv, hlss]))
        go_wp2
        refine wp_region_gb (by kernel_rfl) (by kernel_rfl) ?_
        repeat (first | go_big_quiet_skip | (go_big_quiet_want; go_big_quiet_op; first | go_big_quiet_on | (apply Exists.intro; refine ⟨fun _ => ?_, ?_⟩; (go_at_call 83; exact gb_call (specVolOk_c x _ _ _ (Kd.C_below hC (GB.h _)) hxb hxn)); go_big_quiet_on)))
        refine wpQuiet_nil ?_
        rintro _ ⟨⟨w2, hb2⟩, rfl⟩
        go_wp2
        first
          | (go_ret; exact ⟨ret_bool (poolOk_noV (ltQ HX.out) (HV.out.trans rfl)).symm, hW.tr hb2⟩)
          | (go_roundg (p.vols.length - (k + 1))
             case measure => omega
             case rel => exact ⟨k + 1, by omega, by go_num, allN_step hO.out (HV.out.trans rfl), hB.bel hb2, hW.tr hb2⟩)
    · have HO : Hid (allN (volsAt p.vols) p.vols.length = true) := by obtain rfl : k = p.vols.length := by omega
                                                                      exact hO
      go_wp2
      go_loopg [4] 8 (fun g v4 W => ∃ k : Nat, g + k = 8 ∧ v4 = .int .i64 ((k : Int) + 1) ∧ Hid (allN (usesAt p) k = true) ∧ Blk W w.heap.size #[.slice A0 p.slots.length c0, .slice A1 p.vols.length c1] 30 ∧ Bel w W)
      case atStart => exact ⟨0, rfl, rfl, rfl, hB, hW⟩
      case round =>
        obtain ⟨j, hj, rfl, hU, hB3, hW3⟩ := hrel
        clear q0 q1 hz hlt
        have q0 := hB3.cell 0
        have q1 := hB3.cell 1
        have hz := hB3.lt
        simp at q0 q1
        by_cases hlt : j < 8
        · obtain ⟨x, hx⟩ := getQ (show j < p.slots.length by rw [H8.out]; exact hlt)
          obtain ⟨ad, rfl, hc, hc'⟩ := at_slot (Kd.C_below H0.out hW3) hx
          have g0 := gb_cell q0
          have g1 := gb_cell q1
          have g2 := gb_cell hc'
          have HU := Lib.hid (usesAt_eq hx)
          have hj8 : (j : Int) < p.slots.length := by rw [H8.out]; omega
          have hj8' : j < p.slots.length := by rw [H8.out]; omega
          clear hx
          go_wp2
          refine wp_region_gb (by kernel_rfl) (by kernel_rfl) ?_
          repeat (first | go_big_quiet_skip | (go_big_quiet_want; go_big_quiet_op; first | go_big_quiet_on | (apply Exists.intro; refine ⟨fun _ => ?_, ?_⟩; (go_at_call 84; exact gb_call (l11Uses_c _ _ _ _ _ _ (Kd.C_below H1.out (hW3.tr (GB.h _))) HP.out.vols)); go_big_quiet_on)))
          refine wpQuiet_nil ?_
          rintro _ ⟨⟨w2, hb2⟩, rfl⟩
          cases he : x.uses == uses ((j : Int) + 1) p.vols
          all_goals first
            | have he' : (x.uses != uses ((j : Int) + 1) p.vols) = true := by rw [bne, he]; rfl
            | have he' : (x.uses != uses ((j : Int) + 1) p.vols) = false := by rw [bne, he]; rfl
          all_goals have HE := Lib.hid (HU.out.trans he)
          all_goals clear he
          all_goals
            go_wp2
            first
              | (go_ret; exact ⟨ret_bool (poolOk_noU hlt HE.out).symm, hW3.tr hb2⟩)
              | (go_roundg (8 - (j + 1))
                 case measure => omega
                 case rel => exact ⟨j + 1, by omega, by go_num, allN_step hU.out HE.out, hB3.bel hb2, hW3.tr hb2⟩)
        · have g : Hid (poolOk p = true) := by
            obtain rfl : j = 8 := by omega
            exact poolOk_yes HST.out h4 HO.out hU.out
          go_wp2
          go_ret
          exact ⟨ret_bool g.out.symm, hW3⟩
end Go.Proofs.Ytpobgjkmjlmafaa

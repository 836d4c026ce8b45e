/- PoolOk of the program. -/
import Derived.Test.YtpobgjkmjlmafaaWe
namespace Go.Proofs.Ytpobgjkmjlmafaa
open Go.RowKit Go.Proofs.YtpobgjkmjlmafaaW.PrintWords
set_option linter.unusedVariables false
set_option linter.unusedSimpArgs false

set_option maxHeartbeats 4000000 in
set_option maxRecDepth 100000 in
theorem implPoolOk_c (p : Pool) (A0 A1 : Option Addr) (c0 c1 : Nat) (w : World) (h0 : kSlot.C w A0 p.slots.length p.slots) (hcap : p.slots.length ≤ c0) (h1 : kVol.C w A1 p.vols.length p.vols) (hs : SmallP p) :
    Calls Try.prog 37 #[.agg #[.slice A0 p.slots.length c0, .slice A1 p.vols.length c1]] w (Ret (.bool (poolOk p)) w) := by
  have H0 := Lib.hid h0
  have H1 := Lib.hid h1
  have HP := Lib.hid hs
  have HCAP := Lib.hid hcap
  clear h0 h1 hs hcap
  cases hst : storeOk p.slots
  · have g := Lib.hid (poolOk_noS hst)
    go_enter Try.func37, Try.ntmps37
    go_wp2_with (go_at_call 87; refine (implStoreOk_c _ _ _ _ (Kd.C_alloc H0.out _) HCAP.out HP.out.slots).mono ?_; rintro e w1 ⟨rfl, hb1⟩)
    go_ret
    exact ⟨ret_bool g.out.symm, (bel_alloc (Below.refl _ _) _).tr hb1⟩
  have H8 := Lib.hid (storeOk_len hst)
  have HST := Lib.hid hst
  by_cases h4 : p.vols.length ≤ 4
  case neg =>
    have g := Lib.hid (poolOk_noL h4)
    go_enter Try.func37, Try.ntmps37
    go_wp2_with (go_at_call 87; refine (implStoreOk_c _ _ _ _ (Kd.C_alloc H0.out _) HCAP.out HP.out.slots).mono ?_; rintro e w1 ⟨rfl, hb1⟩; obtain ⟨hc1, hf1⟩ := bcell hb1)
    go_ret
    exact ⟨ret_bool g.out.symm, (bel_alloc (Below.refl _ _) _).tr hb1⟩
  go_enter Try.func37, Try.ntmps37
  go_wp2_with (go_at_call 87; refine (implStoreOk_c _ _ _ _ (Kd.C_alloc H0.out _) HCAP.out HP.out.slots).mono ?_; rintro e w1 ⟨rfl, hb1⟩; obtain ⟨hc1, hf1⟩ := bcell hb1)
  clear hc1 hf1
  go_loopg [22] p.vols.length (fun g v3 W => ∃ k : Nat, g + k = p.vols.length ∧ v3 = .int .i64 k ∧ Hid (allN (volsAt p.vols) k = true) ∧ Blk W w.heap.size #[.slice A0 p.slots.length c0, .slice A1 p.vols.length c1] 30 ∧ Bel w W)
  case atStart => exact ⟨0, rfl, rfl, rfl, (Blk.new _ _ _).bel hb1, (bel_alloc (Below.refl _ _) _).tr hb1⟩
  case round =>
    obtain ⟨k, hk, rfl, hO, hB, hW⟩ := hrel
    by_cases hlt : k < p.vols.length
    · obtain ⟨x, hx⟩ := getQ hlt
      obtain ⟨ad, A2, n1, rfl, hc, hc', hn, hC⟩ := at_vol (Kd.C_below H1.out hW) hx
      obtain ⟨hxb, hxn⟩ := HP.out.vols.at hx
      have HX := Lib.hid hx
      clear hx
      go_wp2
      have hBa : Blk (wr.alloc (.cells #[.string x.name, .slice A2 x.blocks.length n1] 43)) wr.heap.size #[.string x.name, .slice A2 x.blocks.length n1] 43 := Blk.new _ _ _
      have hba : Bel wr (wr.alloc (.cells #[.string x.name, .slice A2 x.blocks.length n1] 43)) := bel_alloc (Below.refl _ _) _
      generalize wr.alloc (.cells #[.string x.name, .slice A2 x.blocks.length n1] 43) = wa at hBa hba ⊢
      have hBb := hB.bel hba
      have hWa := hW.tr hba
      have q0 := hBb.cell 0
      have q1 := hBb.cell 1
      have q2 := hBa.cell 0
      have q3 := hBa.cell 1
      simp at q0 q1 q2 q3
      have g0 := gb_cell q0
      have g1 := gb_cell q1
      have g2 := gb_cell q2
      have g3 := gb_cell q3
      clear q0 q1 q2 q3 hc hc'
      by_cases hk0 : 0 < k
      case neg =>
        cases hv : volOk x
        all_goals
          have HV := Lib.hid ((volsAt_eq0 HX.out hk0).trans hv)
          refine wp_region_gb (by kernel_rfl) (by kernel_rfl) ?_
          repeat (first | go_big_quiet_skip | (go_big_quiet_want; go_big_quiet_op; first | go_big_quiet_on | (apply Exists.intro; refine ⟨fun _ => ?_, ?_⟩; (go_at_call 88; exact gb_call (implVolOk_c x _ _ _ (Kd.C_below hC (hba.tr (GB.h _))) hxb)); go_big_quiet_on)))
          refine wpQuiet_nil ?_
          rintro _ ⟨⟨w2, hb2⟩, rfl⟩
          go_wp2
          first
            | (go_ret; exact ⟨ret_bool (poolOk_noV (ltQ HX.out) HV.out).symm, hWa.tr hb2⟩)
            | (go_roundg (p.vols.length - (k + 1))
               case measure => omega
               case rel => exact ⟨k + 1, by omega, by go_num, allN_step hO.out HV.out, hBb.bel hb2, hWa.tr hb2⟩)
      obtain ⟨y, hy⟩ := getQ (show k - 1 < p.vols.length by omega)
      obtain ⟨ad2, A3, n3, e2, hc2, hc2', hn2, hC2⟩ := at_vol (Kd.C_below H1.out hWa) hy
      cases e2
      have g4 := gb_cell hc2
      have HY := Lib.hid hy
      have hnn : 0 ≤ (k : Int) - 1 := by omega
      have htn : ((k : Int) - 1).toNat = k - 1 := by omega
      have hlt1 : (k : Int) - 1 < p.vols.length := by omega
      clear hy
      cases hv : volOk x
      all_goals cases hlss : Op.bytesLess y.name.toList x.name.toList
      all_goals
        have HV := Lib.hid ((volsAt_eq1 HX.out hk0 HY.out).trans (by rw [hv, hlss]))
        refine wp_region_gb (by kernel_rfl) (by kernel_rfl) ?_
        repeat (first | go_big_quiet_skip | (go_big_quiet_want; go_big_quiet_op; first | go_big_quiet_on | (apply Exists.intro; refine ⟨fun _ => ?_, ?_⟩; (go_at_call 88; exact gb_call (implVolOk_c x _ _ _ (Kd.C_below hC (hba.tr (GB.h _))) hxb)); go_big_quiet_on)))
        refine wpQuiet_nil ?_
        rintro _ ⟨⟨w2, hb2⟩, rfl⟩
        go_wp2
        first
          | (go_ret; exact ⟨ret_bool (poolOk_noV (ltQ HX.out) (HV.out.trans rfl)).symm, hWa.tr hb2⟩)
          | (go_roundg (p.vols.length - (k + 1))
             case measure => omega
             case rel => exact ⟨k + 1, by omega, by go_num, allN_step hO.out (HV.out.trans rfl), hBb.bel hb2, hWa.tr hb2⟩)
    · have HO : Hid (allN (volsAt p.vols) p.vols.length = true) := by obtain rfl : k = p.vols.length := by omega
                                                                      exact hO
      go_wp2
      go_loopg [5] 8 (fun g v4 W => ∃ k : Nat, g + k = 8 ∧ v4 = .int .i64 ((k : Int) + 1) ∧ Hid (allN (usesAt p) k = true) ∧ Blk W w.heap.size #[.slice A0 p.slots.length c0, .slice A1 p.vols.length c1] 30 ∧ Bel w W)
      case atStart => exact ⟨0, rfl, rfl, rfl, hB, hW⟩
      case round =>
        obtain ⟨j, hj, rfl, hU, hB3, hW3⟩ := hrel
        clear hlt
        by_cases hlt : j < 8
        · obtain ⟨x, hx⟩ := getQ (show j < p.slots.length by rw [H8.out]; exact hlt)
          have HU := Lib.hid (usesAt_eq hx)
          have HX := Lib.hid hx
          have hj8 : (j : Int) < p.slots.length := by rw [H8.out]; omega
          have hj8' : j < p.slots.length := by rw [H8.out]; omega
          clear hx
          have q0 := hB3.cell 0
          have q1 := hB3.cell 1
          have hz := hB3.lt
          simp at q0 q1
          have hdj : decide ((j : Int) + 1 ≤ 8) = true := by simp; omega
          go_wp2
          clear hdj
          go_loopg [6, 54] p.vols.length (fun g v6 v54 W => ∃ k : Nat, g + k = p.vols.length ∧ v54 = .int .i64 k ∧ v6 = .int .i64 (uses ((j : Int) + 1) (p.vols.take k)) ∧ Blk W w.heap.size #[.slice A0 p.slots.length c0, .slice A1 p.vols.length c1] 30 ∧ Bel w W)
          case atStart => exact ⟨0, rfl, rfl, rfl, hB3, hW3⟩
          case round =>
            obtain ⟨k, hk, rfl, rfl, hB4, hW4⟩ := hrel
            clear q0 q1 hz
            by_cases hkl : k < p.vols.length
            · obtain ⟨y, hy⟩ := getQ hkl
              obtain ⟨ad, A2, n1, rfl, hc, hc', hn, hC⟩ := at_vol (Kd.C_below H1.out hW4) hy
              have H := Lib.hid ((congrArg (uses ((j : Int) + 1)) (take_snoc hy)).trans (uses_snoc _ _ _))
              obtain ⟨hxb, hxn⟩ := HP.out.vols.at hy
              have d2 := cnt_le ((j : Int) + 1) y.blocks
              have d3 := uses_le (p := (j : Int) + 1) (HP.out.vols.take k)
              have d4 : (p.vols.take k).length ≤ k := List.length_take_le _ _
              clear hy
              go_wp2_with (go_at_call 89; refine (implUses_c y _ _ _ _ (Kd.C_alloc hC _) hxb).mono ?_; rintro e w5 ⟨rfl, hb5⟩)
              go_roundg (p.vols.length - (k + 1))
              case measure => omega
              case rel => exact ⟨k + 1, by omega, by go_num, int_eq H.out.symm, (hB4.alloc _).bel hb5, (bel_alloc hW4 _).tr hb5⟩
            · have H := Lib.hid (congrArg (uses ((j : Int) + 1)) (take_all hkl))
              have q0 := hB4.cell 0
              have q1 := hB4.cell 1
              have hz := hB4.lt
              simp at q0 q1
              obtain ⟨ad, rfl, hc, hc'⟩ := at_slot (Kd.C_below H0.out hW4) HX.out
              obtain ⟨u, hu, hue⟩ : ∃ u, u = uses ((j : Int) + 1) p.vols ∧ uses ((j : Int) + 1) (p.vols.take k) = u := ⟨_, rfl, H.out⟩
              have HU2 := Lib.hid hu
              clear hu
              rw [hue]
              clear hue H
              cases he : u == x.uses
              all_goals first
                | have he' : (u != x.uses) = true := by rw [bne, he]; rfl
                | have he' : (u != x.uses) = false := by rw [bne, he]; rfl
              all_goals have HE := Lib.hid (HU.out.trans ((congrArg (x.uses == ·) HU2.out.symm).trans (BEq.comm.trans he)))
              all_goals clear he
              all_goals
                go_wp2
                first
                  | (go_ret; exact ⟨ret_bool (poolOk_noU hlt HE.out).symm, hW4⟩)
                  | (go_roundg (8 - (j + 1))
                     case measure => omega
                     case rel => exact ⟨j + 1, by omega, by go_num, allN_step hU.out HE.out, hB4, hW4⟩)
        · have g : Hid (poolOk p = true) := by
            obtain rfl : j = 8 := by omega
            exact poolOk_yes HST.out h4 HO.out hU.out
          go_wp2
          go_ret
          exact ⟨ret_bool g.out.symm, hW3⟩
end Go.Proofs.Ytpobgjkmjlmafaa

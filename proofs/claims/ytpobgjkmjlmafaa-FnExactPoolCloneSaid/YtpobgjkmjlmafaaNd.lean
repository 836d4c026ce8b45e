/- PoolClone: what the program's closure does. -/
import Derived.Test.YtpobgjkmjlmafaaNc
namespace Go.Proofs.Ytpobgjkmjlmafaa
open Go.RowKit Go.Proofs.YtpobgjkmjlmafaaW.PrintWords Go.Proofs.YtpobgjkmjlmafaaW.PrintLast
set_option linter.unusedVariables false
set_option linter.unusedSimpArgs false

theorem cloneF_no {p : Pool} {fr dst : ByteArray} (h : volIdx p.vols fr < 0 ∨ isNm dst = false ∨ 0 ≤ volIdx p.vols dst) : cloneF p fr dst = none := by
  unfold cloneF
  rw [if_neg]
  rintro ⟨h1, h2, h3⟩
  rcases h with h | h | h
  · omega
  · rw [h] at h2; cases h2
  · omega
theorem cloneF_yes {p : Pool} {fr dst : ByteArray} {i : Nat} {v : Vol} (hi : volIdx p.vols fr = i) (hv : p.vols[i]? = some v) (h1 : isNm dst = true) (h2 : volIdx p.vols dst < 0) :
    cloneF p fr dst = some ⟨incAll p.slots v.blocks, insAt (posOf dst p.vols) ⟨dst, v.blocks⟩ p.vols⟩ := by
  unfold cloneF
  rw [if_pos ⟨by omega, h1, h2⟩, hi]
  unfold volAt
  rw [Int.toNat_natCast, getD_of hv]
theorem cnt_take (q : Int) : ∀ (xs : List Int) (k : Nat), cnt q (xs.take k) ≤ cnt q xs
  | [], k => by simp
  | a :: xs, 0 => by have := cnt_le q (a :: xs); simp [cnt] at this ⊢; exact this.1
  | a :: xs, k + 1 => by have := cnt_take q xs k; simp only [List.take_succ_cons, cnt]; omega
theorem inc_at {p : Pool} (hp : PoolP p) {i : Nat} {v : Vol} (hv : p.vols[i]? = some v) {k m : Nat} (hx : v.blocks[k]? = some ((m : Int) + 1)) : ∃ y, (incAll p.slots (v.blocks.take k))[m]? = some y ∧ 0 ≤ y.uses ∧ y.uses ≤ 98 := by
  have hvo := volOk_parts (hp.v.v i v hv)
  have hr := hvo.1
  obtain ⟨_, h2⟩ := incAll_get (xs := v.blocks.take k) hp.s (fun x hx => hr x (List.mem_of_mem_take hx)) (fun j x hj => by
    have h1 := hp.uses j x hj
    have h2 := uses_mem (p := (j : Int) + 1) hv
    have h3 := hp.v.uses_le ((j : Int) + 1)
    have h4 := cnt_le ((j : Int) + 1) v.blocks
    have h5 := cnt_take ((j : Int) + 1) v.blocks k
    have h6 := cnt_le ((j : Int) + 1) (v.blocks.take k)
    constructor
    · omega
    · omega)
  have hm := hr _ (List.mem_of_getElem? hx)
  obtain ⟨x, hxs⟩ := getQ (show m < p.slots.length by rw [hp.s.len]; omega)
  refine ⟨_, h2 m x hxs, ?_⟩
  have h1 := hp.uses m x hxs
  have h2 := uses_mem (p := (m : Int) + 1) hv
  have h3 := hp.v.uses_le ((m : Int) + 1)
  have h4 := cnt_le ((m : Int) + 1) v.blocks
  have h5 := cnt_take ((m : Int) + 1) v.blocks k
  have h6 := cnt_le ((m : Int) + 1) (v.blocks.take k)
  have h7 := uses_nonneg ((m : Int) + 1) p.vols
  simp only
  omega

set_option maxHeartbeats 8000000 in
set_option maxRecDepth 10000 in
theorem cloneClo_c {w : World} {A0 A1 : Option Addr} {c0 c1 bp bf bd : Nat} {p : Pool} {fr dst : ByteArray} (h : PoolIn w A0 A1 c0 c1 p) (hs : SmallP p) (hB : Blk w bp #[.slice A0 p.slots.length c0, .slice A1 p.vols.length c1] 30) (hF : Blk w bf #[.string fr] 9) (hD : Blk w bd #[.string dst] 9) (hok : poolOk p = true)
    (W : World) (b base : Nat) (hW : Bel w W) (hb1 : w.heap.size ≤ base) (hb2 : base ≤ W.heap.size) (hpv : PV W b base p) :
    Calls Try.prog 108 #[.pointer (some ⟨b, 0, none⟩), .pointer (some ⟨bp, 0, none⟩), .pointer (some ⟨bf, 0, none⟩), .pointer (some ⟨bd, 0, none⟩)] W (Changes (cloneF p fr dst) b base W) := by
  have HS := Lib.hid hs
  have HP := Lib.hid h
  have HK := Lib.hid (poolOk_iff.1 hok)
  have HV := Lib.hid hpv
  have HW := Lib.hid hW
  have HB := Lib.hid hB
  have HF := Lib.hid hF
  have HD := Lib.hid hD
  have q0 := (HB.out.bel HW.out).cell 0
  have q1 := (HB.out.bel HW.out).cell 1
  have q2 := (HF.out.bel HW.out).cell 0
  simp at q0 q1 q2
  clear h hs hok hpv hW hB hF hD
  have hlv := HS.out.vols.len
  go_enter Try.func108, Try.ntmps108
  go_wp2_with fail
  refine (vol_c _ p.vols A1 c1 fr _ (HP.out.bel HW.out).v hlv).mono ?_
  rintro e w1 ⟨rfl, hb1'⟩
  have HW1 := Lib.hid (HW.out.tr hb1')
  have HB1 := Lib.hid hb1'
  clear q0 q1 q2 hb1'
  by_cases hn : volIdx p.vols fr < 0
  · have HG := Lib.hid (show cloneF p fr dst = none from cloneF_no (.inl hn))
    go_wp2
    go_ret
    rw [HG.out]
    exact ⟨rfl, ⟨p, HV.out.bel HB1.out, fun q' h => by cases h⟩, HB1.out.mono hb2⟩
  · obtain ⟨i, v, hi, hv, hvn⟩ := volIdx_yes hn
    have HI := Lib.hid hv
    have HII := Lib.hid hi
    have hil := ltQ hv
    rw [hi]
    clear hn hvn hv hi
    have hin : ¬ ((i : Int) < 0) := by omega
    have q0 := (HB.out.bel HW1.out).cell 0
    have q1 := (HB.out.bel HW1.out).cell 1
    have q3 := (HD.out.bel HW1.out).cell 0
    simp at q0 q1 q3
    cases h1 : isNm dst with
    | false =>
      have HG := Lib.hid (show cloneF p fr dst = none from cloneF_no (.inr (.inl h1)))
      go_wp2_with (go_at_call 103; refine (isName_c dst _).mono ?_; rintro e w' ⟨rfl, rfl⟩)
      go_ret
      rw [HG.out]
      exact ⟨rfl, ⟨p, HV.out.bel HB1.out, fun q' h => by cases h⟩, HB1.out.mono hb2⟩
    | true =>
      have hbd := volIdx_bd p.vols dst
      go_wp2_with (go_at_call 103; refine (isName_c dst _).mono ?_; rintro e w' ⟨rfl, rfl⟩)
      refine (vol_c _ p.vols A1 c1 dst _ (HP.out.bel HW1.out).v hlv).mono ?_
      rintro e w2 ⟨rfl, hb2'⟩
      have HW2 := Lib.hid (HW1.out.tr hb2')
      have HB2 := Lib.hid (HB1.out.tr hb2')
      clear q0 q1 q3 hb2'
      by_cases h2 : 0 ≤ volIdx p.vols dst
      · have HG := Lib.hid (show cloneF p fr dst = none from cloneF_no (.inr (.inr h2)))
        go_wp2
        go_ret
        rw [HG.out]
        exact ⟨rfl, ⟨p, HV.out.bel HB2.out, fun q' h => by cases h⟩, HB2.out.mono hb2⟩
      · have h2' : volIdx p.vols dst < 0 := by omega
        have HG := Lib.hid (show cloneF p fr dst = some ⟨incAll p.slots v.blocks, insAt (posOf dst p.vols) ⟨dst, v.blocks⟩ p.vols⟩ from cloneF_yes HII.out HI.out h1 h2')
        have HM := Lib.hid (fun (m : Nat) (y : Vol) (hy : p.vols[m]? = some y) => cmpS_pos HK.out h1 h2' m y hy)
        have hq := posOf_le dst p.vols
        have hx1 : v.blocks.length ≤ 1048576 := HS.out.vols.blocks v (List.mem_of_getElem? HI.out)
        obtain ⟨ad, A2, n2, rfl, hc0, hc0', hn2, hC⟩ := at_vol HP.out.v HI.out
        have hc := (HW2.out.cell (World.block_lt_of_cell? w _ hc0)).trans hc0
        have hc' := (HW2.out.cell (World.block_lt_of_cell? w _ hc0')).trans hc0'
        have HC := Lib.hid hC
        have HCC := Lib.hid hc0'
        have q0 := (HB.out.bel HW2.out).cell 0
        have q1 := (HB.out.bel HW2.out).cell 1
        simp at q0 q1
        clear hC hc0 hc0' h1
        go_wp2
        obtain ⟨⟨v0, v1, bvs, hb, ho⟩, hlo⟩ := HV.out.bel HB2.out
        have HO := Lib.hid (And.intro hb ho)
        clear hb ho q0 q1 hc hc'
        go_loopg [32] v.blocks.length (fun g v32 W' => ∃ k : Nat, g + k = v.blocks.length ∧ v32 = .int .i64 k ∧ Blk W' b #[v0, v1] 30 ∧ OwnS W' base v0 (incAll p.slots (v.blocks.take k)) ∧ OwnV W' base v1 p.vols bvs ∧ Below base w2 W')
        case atStart => exact ⟨0, rfl, rfl, HO.out.1, HO.out.2.s, HO.out.2.v, Below.refl _ _⟩
        case round =>
          obtain ⟨k, hk, rfl, hb, hos, hov, hbel⟩ := hrel
          have hWw : Bel w wr := HW2.out.trans (hbel.mono hb1)
          by_cases hlt : k < v.blocks.length
          · obtain ⟨x, hx⟩ := getQ hlt
            have hxr := (volOk_parts (HK.out.v.v i v HI.out)).1 x (List.mem_of_getElem? hx)
            obtain ⟨ad2, rfl, hcx⟩ := at_int (Kd.C_below HC.out hWw) hx
            have r0 := hb.cell 0
            simp at r0
            have HR := Lib.hid (And.intro (And.intro hb hos) (And.intro hov (And.intro hbel hWw)))
            clear hb hov hbel hWw
            by_cases h0 : 0 < x
            · obtain ⟨m, rfl⟩ : ∃ m : Nat, x = (m : Int) + 1 := ⟨(x - 1).toNat, by omega⟩
              obtain ⟨y, hy, hy1, hy2⟩ := inc_at HK.out HI.out hx
              have HT := Lib.hid (show incAll p.slots (v.blocks.take (k + 1)) = (incAll p.slots (v.blocks.take k)).set m ⟨y.text, y.uses + 1⟩ by rw [take_snoc hx, incAll_snoc, if_pos h0, show ((m : Int) + 1 - 1).toNat = m by omega, incS_eq hy])
              have hdl : (incAll p.slots (v.blocks.take k)).length = 8 := by rw [incAll_len, HK.out.s.len]
              have hml := ltQ hy
              rw [hdl] at hml
              obtain ⟨g, cap, ev, hg1, hg2, hcap, hcc, hcc', hf, hf'⟩ := OwnS.at hos hy
              rw [hdl] at ev hcap
              subst ev
              have hset := OwnS.setU (hdl ▸ hos) hy (y.uses + 1)
              have H3 := Lib.hid hset
              have hdl2 := Lib.hid hdl
              clear hx hy hos hset hdl
              go_wp2
              go_roundg (v.blocks.length - (k + 1))
              case rel =>
                obtain ⟨⟨hb, hos⟩, hov, hbel, hWw⟩ := HR.out
                refine ⟨k + 1, by omega, int_eq (by omega), hb.grown H3.out.2 (own_blk_ne hos hb (by decide)), ?_, hov.otherS hos H3.out.2, hbel.grown H3.out.2 (by have := hb.lt; omega) (own_base hos)⟩
                rw [HT.out]
                have h5 := H3.out.1
                rw [hdl2.out] at h5
                exact h5
              case measure => omega
            · have HT := Lib.hid (show incAll p.slots (v.blocks.take (k + 1)) = incAll p.slots (v.blocks.take k) by rw [take_snoc hx, incAll_snoc, if_neg h0])
              clear hx hos
              go_wp2
              go_roundg (v.blocks.length - (k + 1))
              case rel =>
                obtain ⟨⟨hb, hos⟩, hov, hbel, hWw⟩ := HR.out
                exact ⟨k + 1, by omega, int_eq (by omega), hb, by rw [HT.out]; exact hos, hov, hbel⟩
              case measure => omega
          · have hkl : k = v.blocks.length := by omega
            rw [hkl, List.take_length] at hos
            have hpv : PV wr.drew b base ⟨incAll p.slots v.blocks, p.vols⟩ := ⟨⟨v0, v1, bvs, hb, ⟨hos.bel (Below.refl _ _).drew, hov.bel (Below.refl _ _).drew⟩⟩, hlo⟩
            have q1 := (HB.out.bel hWw).cell 1
            have q3 := (HD.out.bel hWw).cell 0
            have q4 := (hWw.cell (World.block_lt_of_cell? w _ HCC.out)).trans HCC.out
            simp at q1 q3 q4
            have HPV := Lib.hid hpv
            have HWw := Lib.hid hWw
            have HBE := Lib.hid hbel
            have hbw : base ≤ wr.heap.size := by have := hbel.size; have := HB2.out.size; omega
            clear hb hos hov hbel hWw hpv hkl
            go_wp2
            refine start_ (n := 11) (S := fun w' => w'.cell? ⟨bd, 0, none⟩ = some (.string dst) ∧ w'.cell? ⟨bp, 1, none⟩ = some (.slice (some ad) p.vols.length c1) ∧ w'.cell? ⟨(ad.add (i * 2)).block, (ad.add (i * 2)).off + 1, none⟩ = some (.slice A2 v.blocks.length n2)) (ds := [10]) #[false, false, false, false, false, false, false, false, false, false, false] (by kernel_rfl) rfl rfl ⟨q3, q1, q4⟩ (fun hHeld => ?_)
            refine pure_ (i := 0) (N := some 51) (v := ?_) (a' := ?_) #[true, false, false, false, false, false, false, false, false, false, false] rfl rfl (by kernel_rfl) (fun _ _ _ h => h) (Or.inl ⟨by rfl, ?_⟩) ?_ ?_
            rotate_left
            · intro w'
              go_simp
              with_reducible rfl
            rotate_left
            · simp only [Act.put, List.setIfInBounds_toArray, List.set_cons_zero, List.set_cons_succ, i64_w, i32_w]
              rfl
            refine pure_ (i := 2) (N := some 53) (v := ?_) (a' := ?_) #[true, false, true, false, false, false, false, false, false, false, false] rfl rfl (by kernel_rfl) (fun _ _ _ h => h) (Or.inl ⟨by rfl, ?_⟩) ?_ ?_
            rotate_left
            · intro w'
              go_simp
              with_reducible rfl
            rotate_left
            · simp only [Act.put, List.setIfInBounds_toArray, List.set_cons_zero, List.set_cons_succ, i64_w, i32_w]
              rfl
            refine pure_ (i := 4) (N := some 55) (v := ?_) (a' := ?_) #[true, false, true, false, true, false, false, false, false, false, false] rfl rfl (by kernel_rfl) (fun _ _ _ h => h) (Or.inl ⟨by rfl, ?_⟩) ?_ ?_
            rotate_left
            · intro w'
              go_simp
              with_reducible rfl
            rotate_left
            · simp only [Act.put, List.setIfInBounds_toArray, List.set_cons_zero, List.set_cons_succ, i64_w, i32_w]
              rfl
            refine take_ (i := 1) (N := some 52) (v := ?_) (a' := ?_) #[true, true, true, false, true, false, false, false, false, false, false] rfl rfl (by kernel_rfl) (fun _ _ _ h => h) (Or.inl ⟨by rfl, ?_⟩) hHeld ?_ ?_
            rotate_left
            · rintro w' ⟨s0, s1, s2⟩
              go_simp
              with_reducible rfl
            rotate_left
            · simp only [Act.put, List.setIfInBounds_toArray, List.set_cons_zero, List.set_cons_succ, i64_w, i32_w]
              rfl
            refine take_ (i := 3) (N := some 54) (v := ?_) (a' := ?_) #[true, true, true, true, true, false, false, false, false, false, false] rfl rfl (by kernel_rfl) (fun _ _ _ h => h) (Or.inl ⟨by rfl, ?_⟩) hHeld ?_ ?_
            rotate_left
            · rintro w' ⟨s0, s1, s2⟩
              go_simp
              with_reducible rfl
            rotate_left
            · simp only [Act.put, List.setIfInBounds_toArray, List.set_cons_zero, List.set_cons_succ, i64_w, i32_w]
              rfl
            refine pure_ (i := 5) (N := some 56) (v := ?_) (a' := ?_) #[true, true, true, true, true, true, false, false, false, false, false] rfl rfl (by kernel_rfl) (fun _ _ _ h => h) (Or.inl ⟨by rfl, ?_⟩) ?_ ?_
            rotate_left
            · intro w'
              go_simp
              with_reducible rfl
            rotate_left
            · simp only [Act.put, List.setIfInBounds_toArray, List.set_cons_zero, List.set_cons_succ, i64_w, i32_w]
              rfl
            refine pure_ (i := 6) (N := some 57) (v := ?_) (a' := ?_) #[true, true, true, true, true, true, true, false, false, false, false] rfl rfl (by kernel_rfl) (fun _ _ _ h => h) (Or.inl ⟨by rfl, ?_⟩) ?_ ?_
            rotate_left
            · intro w'
              go_simp
              with_reducible rfl
            rotate_left
            · simp only [Act.put, List.setIfInBounds_toArray, List.set_cons_zero, List.set_cons_succ, i64_w, i32_w]
              rfl
            refine take_ (i := 7) (N := some 58) (v := ?_) (a' := ?_) #[true, true, true, true, true, true, true, true, false, false, false] rfl rfl (by kernel_rfl) (fun _ _ _ h => h) (Or.inl ⟨by rfl, ?_⟩) hHeld ?_ ?_
            rotate_left
            · rintro w' ⟨s0, s1, s2⟩
              go_simp
              with_reducible rfl
            rotate_left
            · simp only [Act.put, List.setIfInBounds_toArray, List.set_cons_zero, List.set_cons_succ, i64_w, i32_w]
              rfl
            refine one_ (i := 8) (N := some 59) #[true, true, true, true, true, true, true, true, true, false, false] rfl rfl (by kernel_rfl) (by decide) (fun K hK => ?_)
            refine goes_ Try.func109 (by kernel_rfl) rfl #[.slice A2 v.blocks.length n2] (by rfl) rfl rfl (by simp only [List.map_toArray, List.map_cons, List.map_nil]; rfl) ?_
            with_reducible refine (cloneI_c (Kd.C_below HC.out HWw.out.drew) hx1).mono ?_
            rintro e w3 ⟨v3, rfl, ho3, hb3⟩
            obtain ⟨A3, c3, rfl, hc3, hC3⟩ := ho3.reads
            have HO3 := Lib.hid ho3
            have HB3 := Lib.hid hb3
            have hw3 : Bel w w3 := Bel.tr (b := wr.drew) HWw.out.drew hb3
            have u1 := (HB.out.bel hw3).cell 1
            have u3 := (HD.out.bel hw3).cell 0
            have u4 := (hw3.cell (World.block_lt_of_cell? w _ HCC.out)).trans HCC.out
            simp at u1 u3 u4
            clear ho3 hb3 hw3 hC3
            refine ⟨_, rfl, ?_⟩
            refine hK.out _ _ ⟨u3, u1, u4⟩ (fun hHeld => ?_)
            clear hK K
            refine norm_ (a' := ?_) ?_ ?_
            rotate_left
            · show Act.put _ (some 59) _ = _
              simp only [Act.put, List.setIfInBounds_toArray, List.set_cons_zero, List.set_cons_succ, i64_w, i32_w]
              rfl
            refine pure_ (i := 9) (N := some 60) (v := ?_) (a' := ?_) #[true, true, true, true, true, true, true, true, true, true, false] rfl rfl (by kernel_rfl) (fun _ _ _ h => h) (Or.inl ⟨by rfl, ?_⟩) ?_ ?_
            rotate_left
            · intro w'
              go_simp
              with_reducible rfl
            rotate_left
            · simp only [Act.put, List.setIfInBounds_toArray, List.set_cons_zero, List.set_cons_succ, i64_w, i32_w]
              rfl
            refine last_ (i := 10) (N := some 61) #[true, true, true, true, true, true, true, true, true, true, true] rfl rfl (by kernel_rfl) (by decide) (fun K hK => ?_)
            refine goes_ Try.func105 (by kernel_rfl) rfl #[.pointer (some ⟨b, 0, none⟩), .agg #[.string dst, .slice A3 v.blocks.length c3]] (by rfl) rfl rfl (by simp only [List.map_toArray, List.map_cons, List.map_nil]; rfl) ?_
            with_reducible refine (insert2_c (x := ⟨dst, v.blocks⟩) HPV.out HB3.out HO3.out hq hlv HM.out).mono ?_
            rintro e w4 ⟨rfl, hv4, hb4⟩
            have HV4 := Lib.hid hv4
            have HB4 := Lib.hid hb4
            clear hv4 hb4
            refine ⟨_, rfl, ?_⟩
            refine hK.out _ _ ?_
            clear hK K
            refine norm_ (a' := ?_) ?_ ?_
            rotate_left
            · show Act.put _ (some 61) _ = _
              simp only [Act.put, List.setIfInBounds_toArray, List.set_cons_zero, List.set_cons_succ, i64_w, i32_w]
              rfl
            refine done_ (by kernel_rfl) ?_
            clear hHeld
            go_wp2
            go_ret
            rw [HG.out]
            exact ⟨rfl, ⟨_, HV4.out, fun q' h => (Option.some.inj h)⟩, ((((HB2.out.mono hb2).trans HBE.out).drew).trans (HB3.out.mono hbw)).trans HB4.out⟩
end Go.Proofs.Ytpobgjkmjlmafaa

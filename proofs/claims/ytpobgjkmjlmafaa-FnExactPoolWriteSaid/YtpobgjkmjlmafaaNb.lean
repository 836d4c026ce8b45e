/- PoolMake: what the program's closure does, and the reference. -/
import Derived.Test.YtpobgjkmjlmafaaNa
import Derived.Test.YtpobgjkmjlmafaaPx
import Derived.Test.YtpobgjkmjlmafaaWh
namespace Go.Proofs.Ytpobgjkmjlmafaa
open Go.RowKit Go.Proofs.YtpobgjkmjlmafaaW.PrintWords Go.Proofs.YtpobgjkmjlmafaaW.PrintLast
set_option linter.unusedVariables false
set_option linter.unusedSimpArgs false

theorem makeF_no {p : Pool} {name : ByteArray} {size : Int} (h : isNm name = false ∨ 0 ≤ volIdx p.vols name ∨ inR size 1 6 = false) : makeF p name size = none := by
  unfold makeF
  rw [if_neg]
  rintro ⟨h1, h2, h3⟩
  rcases h with h | h | h
  · rw [h] at h1; cases h1
  · omega
  · rw [h] at h3; cases h3
theorem makeF_yes {p : Pool} {name : ByteArray} {size : Int} (h1 : isNm name = true) (h2 : volIdx p.vols name < 0) (h3 : inR size 1 6 = true) : makeF p name size = some ⟨p.slots, insAt (posOf name p.vols) ⟨name, List.replicate size.toNat 0⟩ p.vols⟩ := by
  unfold makeF
  rw [if_pos ⟨h1, h2, h3⟩]
theorem cmpS_pos {p : Pool} (hp : PoolP p) {t : ByteArray} (ht : isNm t = true) (hn : volIdx p.vols t < 0) (m : Nat) (y : Vol) (hy : p.vols[m]? = some y) : m < posOf t p.vols ↔ cmpS y.name t < 0 :=
  (hp.v.pos ht hn m y hy).trans (nm_cmp (hp.v.nm hy) ht).symm
theorem PV.kept {w w' : World} {b base : Nat} {p : Pool} (h : PV w b base p) (hb : Bel w w') : PV w' b base p := h.bel hb

set_option maxHeartbeats 8000000 in
set_option maxRecDepth 10000 in
theorem makeClo_c {w : World} {A0 A1 : Option Addr} {c0 c1 bp bn bs : Nat} {p : Pool} {name : ByteArray} {size : Int} (h : PoolIn w A0 A1 c0 c1 p) (hs : SmallP p) (hB : Blk w bp #[.slice A0 p.slots.length c0, .slice A1 p.vols.length c1] 30) (hN : Blk w bn #[.string name] 9) (hZ : Blk w bs #[.int .i64 size] 3) (hok : poolOk p = true)
    (W : World) (b base : Nat) (hW : Bel w W) (hb1 : w.heap.size ≤ base) (hb2 : base ≤ W.heap.size) (hpv : PV W b base p) :
    Calls Try.prog 102 #[.pointer (some ⟨b, 0, none⟩), .pointer (some ⟨bn, 0, none⟩), .pointer (some ⟨bp, 0, none⟩), .pointer (some ⟨bs, 0, none⟩)] W (Changes (makeF p name size) b base W) := by
  have HS := Lib.hid hs
  have HP := Lib.hid h
  have HK := Lib.hid (poolOk_iff.1 hok)
  have HV := Lib.hid hpv
  have HW := Lib.hid hW
  have HB := Lib.hid hB
  have HN := Lib.hid hN
  have HZ := Lib.hid hZ
  have q0 := (HB.out.bel HW.out).cell 0
  have q1 := (HB.out.bel HW.out).cell 1
  have q2 := (HN.out.bel HW.out).cell 0
  have q3 := (HZ.out.bel HW.out).cell 0
  simp at q0 q1 q2 q3
  clear h hs hok hpv hW hB hN hZ
  have hlv := HS.out.vols.len
  cases h1 : isNm name with
  | false =>
    have HG := Lib.hid (show makeF p name size = none from makeF_no (.inl h1))
    go_enter Try.func102, Try.ntmps102
    go_wp2_with (go_at_call 103; refine (isName_c name _).mono ?_; rintro e w' ⟨rfl, rfl⟩)
    go_ret
    rw [HG.out]
    exact ⟨rfl, ⟨p, HV.out, fun q' h => by cases h⟩, Below.refl _ _⟩
  | true =>
    have hbd := volIdx_bd p.vols name
    by_cases h2 : 0 ≤ volIdx p.vols name
    · have HG := Lib.hid (show makeF p name size = none from makeF_no (.inr (.inl h2)))
      go_enter Try.func102, Try.ntmps102
      go_wp2_with (first | (go_at_call 103; refine (isName_c name _).mono ?_; rintro e w' ⟨rfl, rfl⟩) | (go_at_call 69; refine (vol_c _ p.vols A1 c1 name _ (HP.out.bel HW.out).v hlv).mono ?_; rintro e w1 ⟨rfl, hb1⟩))
      go_ret
      rw [HG.out]
      exact ⟨rfl, ⟨p, HV.out.bel hb1, fun q' h => by cases h⟩, hb1.mono hb2⟩
    · have h2' : volIdx p.vols name < 0 := by omega
      cases h3 : inR size 1 6 with
      | false =>
        have HG := Lib.hid (show makeF p name size = none from makeF_no (.inr (.inr h3)))
        go_enter Try.func102, Try.ntmps102
        go_wp2_with (first | (go_at_call 103; refine (isName_c name _).mono ?_; rintro e w' ⟨rfl, rfl⟩) | (go_at_call 69; refine (vol_c _ p.vols A1 c1 name _ (HP.out.bel HW.out).v hlv).mono ?_; rintro e w1 ⟨rfl, hb1⟩; have q4 := (HZ.out.bel (HW.out.tr hb1)).cell 0; simp at q4) | (go_at_call 104; refine (within_c size 1 6 _).mono ?_; rintro e w' ⟨rfl, rfl⟩))
        go_ret
        rw [HG.out]
        exact ⟨rfl, ⟨p, HV.out.bel hb1, fun q' h => by cases h⟩, hb1.mono hb2⟩
      | true =>
        have hr := inR_iff.1 h3
        have hs1 : 1 ≤ size := hr.1
        have hs6 : size ≤ 6 := hr.2
        clear hr
        obtain ⟨zs, hzs⟩ : ∃ zs, List.replicate size.toNat (0 : Int) = zs := ⟨_, rfl⟩
        have HG := Lib.hid (show makeF p name size = some ⟨p.slots, insAt (posOf name p.vols) ⟨name, zs⟩ p.vols⟩ from hzs ▸ makeF_yes h1 h2' h3)
        have HZS := Lib.hid hzs
        clear hzs
        have HM := Lib.hid (fun (m : Nat) (y : Vol) (hy : p.vols[m]? = some y) => cmpS_pos HK.out h1 h2' m y hy)
        have hq := posOf_le name p.vols
        go_enter Try.func102, Try.ntmps102
        go_wp2_with (first | (go_at_call 103; refine (isName_c name _).mono ?_; rintro e w' ⟨rfl, rfl⟩) | (go_at_call 69; refine (vol_c _ p.vols A1 c1 name _ (HP.out.bel HW.out).v hlv).mono ?_; rintro e w1 ⟨rfl, hb1⟩; have q4 := (HZ.out.bel (HW.out.tr hb1)).cell 0; simp at q4) | (go_at_call 104; refine (within_c size 1 6 _).mono ?_; rintro e w' ⟨rfl, rfl⟩))
        have q5 := (HN.out.bel (HW.out.tr hb1)).cell 0
        simp at q5
        have HB1 := Lib.hid hb1
        have hpv1 : PV w1.drew b base p := HV.out.bel (Bel.tr hb1 (Below.refl _ _).drew)
        have HV1 := Lib.hid hpv1
        clear hb1 hpv1 q0 q1 q2 q3 h1 h3
        refine start_ (n := 6) (S := fun w' => w'.cell? ⟨bn, 0, none⟩ = some (.string name) ∧ w'.cell? ⟨bs, 0, none⟩ = some (.int .i64 size)) (ds := [5]) #[false, false, false, false, false, false] (by kernel_rfl) rfl rfl ⟨q5, q4⟩ (fun hHeld => ?_)
        refine pure_ (i := 0) (N := some 20) (v := ?_) (a' := ?_) #[true, false, false, false, false, false] rfl rfl (by kernel_rfl) (fun _ _ _ h => h) (Or.inl ⟨by rfl, ?_⟩) ?_ ?_
        rotate_left
        · intro w'
          go_simp
          with_reducible rfl
        rotate_left
        · simp only [Act.put, List.setIfInBounds_toArray, List.set_cons_zero, List.set_cons_succ, i64_w, i32_w]
          rfl
        refine take_ (i := 1) (N := some 21) (v := ?_) (a' := ?_) #[true, true, false, false, false, false] rfl rfl (by kernel_rfl) (fun _ _ _ h => h) (Or.inl ⟨by rfl, ?_⟩) hHeld ?_ ?_
        rotate_left
        · rintro w' ⟨s0, s1⟩
          go_simp
          with_reducible rfl
        rotate_left
        · simp only [Act.put, List.setIfInBounds_toArray, List.set_cons_zero, List.set_cons_succ, i64_w, i32_w]
          rfl
        refine take_ (i := 2) (N := some 22) (v := ?_) (a' := ?_) #[true, true, true, false, false, false] rfl rfl (by kernel_rfl) (fun _ _ _ h => h) (Or.inl ⟨by rfl, ?_⟩) hHeld ?_ ?_
        rotate_left
        · rintro w' ⟨s0, s1⟩
          go_simp
          with_reducible rfl
        rotate_left
        · simp only [Act.put, List.setIfInBounds_toArray, List.set_cons_zero, List.set_cons_succ, i64_w, i32_w]
          rfl
        refine one_ (i := 3) (N := some 23) #[true, true, true, true, false, false] rfl rfl (by kernel_rfl) (by decide) (fun K hK => ?_)
        refine Kd.R_make_step kInt (w0 := w1.drew) w1.drew.heap.size 3 (by rfl) (N := 23) rfl 41 _ _ rfl size rfl rfl Try.underlying41 (.int .i64 0) 8 info_int rfl (by decide) (by omega) 0 (ok := fun _ => True) (okp := fun _ => True) (kInt_mkM _ _ _ 0) (fun _ hk => hk) trivial (by omega) (by omega) (Below.refl _ _) (Nat.le_refl _) ?_
        intro v2 w2 ho hb2' hg_ hnew_
        clear hg_ hnew_
        have ho2 : OwnI w2 w1.drew.heap.size v2 zs := HZS.out ▸ ownI_of_R ho
        have HO2 := Lib.hid ho2
        have hb1' : Bel W w2 := Bel.tr (Bel.tr HB1.out (Below.refl _ _).drew) hb2'
        have HB2 := Lib.hid hb2'
        have HB1' := Lib.hid hb1'
        obtain ⟨A2, c2, rfl, hc2, hC2⟩ := ho2.reads
        have u1 := (HN.out.bel (HW.out.tr hb1')).cell 0
        have u2 := (HZ.out.bel (HW.out.tr hb1')).cell 0
        simp at u1 u2
        clear ho ho2 hb1' hb2' hC2 hc2
        refine hK.out _ _ ⟨u1, u2⟩ (fun hHeld => ?_)
        clear hK K
        refine norm_ (a' := ?_) ?_ ?_
        rotate_left
        · show Act.put _ (some 23) _ = _
          simp only [Act.put, List.setIfInBounds_toArray, List.set_cons_zero, List.set_cons_succ, i64_w, i32_w]
          rfl
        refine pure_ (i := 4) (N := some 24) (v := ?_) (a' := ?_) #[true, true, true, true, true, false] rfl rfl (by kernel_rfl) (fun _ _ _ h => h) (Or.inl ⟨by rfl, ?_⟩) ?_ ?_
        rotate_left
        · intro w'
          go_simp
          with_reducible rfl
        rotate_left
        · simp only [Act.put, List.setIfInBounds_toArray, List.set_cons_zero, List.set_cons_succ, i64_w, i32_w]
          rfl
        refine last_ (i := 5) (N := some 25) #[true, true, true, true, true, true] rfl rfl (by kernel_rfl) (by decide) (fun K hK => ?_)
        refine goes_ Try.func105 (by kernel_rfl) rfl #[.pointer (some ⟨b, 0, none⟩), .agg #[.string name, .slice A2 zs.length c2]] (by rfl) rfl rfl (by simp only [List.map_toArray, List.map_cons, List.map_nil]; rfl) ?_
        with_reducible refine (insert2_c (x := ⟨name, zs⟩) HV1.out HB2.out HO2.out hq hlv HM.out).mono ?_
        rintro e w3 ⟨rfl, hv3, hb3⟩
        have HV3 := Lib.hid hv3
        have HB3 := Lib.hid hb3
        have u3 : True := trivial
        clear hv3 hb3
        refine ⟨_, rfl, ?_⟩
        refine hK.out _ _ ?_
        clear hK K
        refine norm_ (a' := ?_) ?_ ?_
        rotate_left
        · show Act.put _ (some 25) _ = _
          simp only [Act.put, List.setIfInBounds_toArray, List.set_cons_zero, List.set_cons_succ, i64_w, i32_w]
          rfl
        refine done_ (by kernel_rfl) ?_
        clear hHeld
        go_wp2
        go_ret
        rw [HG.out]
        exact ⟨rfl, ⟨_, HV3.out, fun q' h => (Option.some.inj h)⟩, (HB1'.out.mono hb2).trans HB3.out⟩
end Go.Proofs.Ytpobgjkmjlmafaa

/- FnExactPoolWrite: the program's PoolWrite and the reference's return the same, leave their arguments, share no memory: the law returns true. -/
import Derived.Test.YtpobgjkmjlmafaaEa
import Derived.Test.YtpobgjkmjlmafaaNoWrite
namespace Go.Proofs.Ytpobgjkmjlmafaa
open Go.RowKit Go.Proofs.YtpobgjkmjlmafaaW.PrintWords Go.Proofs.YtpobgjkmjlmafaaW.PrintLast
set_option linter.unusedVariables false
set_option linter.unusedSimpArgs false

set_option maxHeartbeats 8000000 in
set_option maxRecDepth 10000 in
theorem lawFnExactPoolWrite_c {w : World} {A0 A1 : Option Addr} {c0 c1 : Nat} {p : Pool} {name : ByteArray} {blk : Int} {text : ByteArray} (h : PoolIn w A0 A1 c0 c1 p) (hr : RawS p.slots) (hv : RawV p.vols) (hn : name.size ≤ 9223372036854775807) (hz0 : -9223372036854775808 ≤ blk) (hz1 : blk ≤ 9223372036854775807) (hd : text.size ≤ 9223372036854775807) :
    Calls Try.prog 6 #[.agg #[.slice A0 p.slots.length c0, .slice A1 p.vols.length c1], .string name, .int .i64 blk, .string text] w (Ret (.bool true) w) := by
  have HP := Lib.hid h
  have HRS := Lib.hid hr
  have HRV := Lib.hid hv
  clear h hr hv
  go_enter Try.func6, Try.ntmps6
  by_cases hlenname : (1048576 : Int) < (name.size : Int)
  · go_wp2
    go_ret
    exact ⟨rfl, bel_alloc (Below.refl _ _) _⟩
  · skip
    by_cases hlentext : (1048576 : Int) < (text.size : Int)
    · go_wp2
      go_ret
      exact ⟨rfl, bel_alloc (Below.refl _ _) _⟩
    · skip
      go_wp2_with fail
      have hB : Blk (w.alloc (.cells #[.slice A0 p.slots.length c0, .slice A1 p.vols.length c1] 25)) w.heap.size #[.slice A0 p.slots.length c0, .slice A1 p.vols.length c1] 25 := Blk.new _ _ _
      have hW : Bel w (w.alloc (.cells #[.slice A0 p.slots.length c0, .slice A1 p.vols.length c1] 25)) := bel_alloc (Below.refl _ _) _
      have hsz0 : (w.alloc (.cells #[.slice A0 p.slots.length c0, .slice A1 p.vols.length c1] 25)).heap.size = w.heap.size + 1 := by simp
      generalize (w.alloc (.cells #[.slice A0 p.slots.length c0, .slice A1 p.vols.length c1] 25)) = W0 at hB hW hsz0 ⊢
      have HB := Lib.hid hB
      have HW := Lib.hid hW
      have HZ0 := Lib.hid hsz0
      clear hB hW hsz0
      refine (szPool_c (HP.out.bel HW.out) HRS.out HRV.out (by omega) (by omega)).mono ?_
      rintro e w1 ⟨r, rfl, hb1, hr, hr1⟩
      have HB1 := Lib.hid hb1
      have HR := Lib.hid hr
      clear hb1 hr
      by_cases hrn : r < 0
      · go_wp2
        go_ret
        exact ⟨rfl, HW.out.tr HB1.out⟩
      · skip
        have HS := Lib.hid (HR.out (by omega)).1
        have hr2 : r ≤ 1048576 := (HR.out (by omega)).2
        have KB := Lib.hid (HB.out.bel HB1.out)
        have KP := Lib.hid (HP.out.bel (HW.out.tr HB1.out))
        have KW := Lib.hid (HW.out.tr HB1.out)
        have KZ := Lib.hid (show w.heap.size < w1.heap.size by have := HB1.out.size; have := HZ0.out; omega)
        clear hr2 hr1
        have q0 := KB.out.cell 0
        have q1 := KB.out.cell 1
        have y0 := KB.out.lt
        simp at q0 q1
        go_wp2_with fail
        refine (toPool_c KP.out HS.out).mono ?_
        rintro e w2 ⟨v2, v3, bvsY, rfl, hoY, hb⟩
        clear q0 q1 y0
        replace KB := Lib.hid (KB.out.bel hb)
        replace KP := Lib.hid (KP.out.bel hb)
        replace KW := Lib.hid (KW.out.trans (Below.mono hb (Below.size KW.out)))
        replace KZ := Lib.hid (show w.heap.size < w2.heap.size from Nat.lt_of_lt_of_le KZ.out hb.size)
        have KY := Lib.hid hoY
        clear hoY hb
        obtain ⟨A2, A3, c2, c3, rfl, rfl, hpi⟩ := KY.out.reads
        go_wp2_with fail
        refine (specPoolWrite_c (name := name) (blk := blk) (text := text) hpi HS.out (by omega)).mono ?_
        rintro e w3 ⟨v4, v5, bvsQ, rfl, hoQ, hb⟩
        clear hpi KY
        have hqs : SmallP (chP p (writeF p name blk text)) := chP_small HS.out fun q hk hq => (writeF_ok (poolOk_iff.1 hk) hq).small
        obtain ⟨q, hq⟩ : ∃ q, chP p (writeF p name blk text) = q := ⟨_, rfl⟩
        obtain ⟨ok, hok⟩ : ∃ ok, chB p (writeF p name blk text) = ok := ⟨_, rfl⟩
        rw [hq] at hoQ hqs
        rw [hok]
        have KQE := Lib.hid hq
        have KOE := Lib.hid hok
        clear hq hok
        have KQS := Lib.hid hqs
        replace KB := Lib.hid (KB.out.bel hb)
        replace KP := Lib.hid (KP.out.bel hb)
        replace KW := Lib.hid (KW.out.trans (Below.mono hb (Below.size KW.out)))
        replace KZ := Lib.hid (show w.heap.size < w3.heap.size from Nat.lt_of_lt_of_le KZ.out hb.size)
        have KQ := Lib.hid (OwnP.at hoQ)
        clear hoQ hqs hb
        obtain ⟨A4, A5, c4, c5, rfl, rfl, hpi⟩ := KQ.out.reads
        clear hpi
        have q0 := KB.out.cell 0
        have q1 := KB.out.cell 1
        have y0 := KB.out.lt
        simp at q0 q1
        go_wp2_with fail
        clear q0 q1 y0
        have KZb := Lib.hid KZ.out
        have hnew : Blk (w3.alloc (.cells #[.slice A4 q.slots.length c4, .slice A5 q.vols.length c5] 30)) w3.heap.size #[.slice A4 q.slots.length c4, .slice A5 q.vols.length c5] 30 := Blk.new _ _ _
        have hb : Bel w3 (w3.alloc (.cells #[.slice A4 q.slots.length c4, .slice A5 q.vols.length c5] 30)) := bel_alloc (Below.refl _ _) _
        have hsz : (w3.alloc (.cells #[.slice A4 q.slots.length c4, .slice A5 q.vols.length c5] 30)).heap.size = w3.heap.size + 1 := by simp
        generalize w3.alloc (.cells #[.slice A4 q.slots.length c4, .slice A5 q.vols.length c5] 30) = W4 at hnew hb hsz ⊢
        replace KB := Lib.hid (KB.out.bel hb)
        replace KP := Lib.hid (KP.out.bel hb)
        replace KQ := Lib.hid (KQ.out.bel hb)
        replace KW := Lib.hid (KW.out.trans (Below.mono hb (Below.size KW.out)))
        replace KZ := Lib.hid (show w.heap.size < W4.heap.size from Nat.lt_of_lt_of_le KZ.out hb.size)
        obtain ⟨b6, hbn⟩ : ∃ b, w3.heap.size = b := ⟨_, rfl⟩
        rw [hbn] at hnew hsz ⊢
        have K6 := Lib.hid hnew
        have KZ6 := Lib.hid (show w.heap.size < b6 by have := KZb.out; omega)
        have K6Z := Lib.hid (And.intro hbn hsz)
        clear hnew hb hsz hbn
        refine (toPool_c KP.out HS.out).mono ?_
        rintro e w5 ⟨v6, v7, bvsX, rfl, hoX, hb⟩
        replace KB := Lib.hid (KB.out.bel hb)
        replace KP := Lib.hid (KP.out.bel hb)
        replace KQ := Lib.hid (KQ.out.bel hb)
        replace K6 := Lib.hid (K6.out.bel hb)
        replace KW := Lib.hid (KW.out.trans (Below.mono hb (Below.size KW.out)))
        replace KZ := Lib.hid (show w.heap.size < w5.heap.size from Nat.lt_of_lt_of_le KZ.out hb.size)
        have KXZ := Lib.hid (show W4.heap.size ≤ w5.heap.size from hb.size)
        have KX := Lib.hid (OwnP.at hoX)
        clear hoX hb
        obtain ⟨A6, A7, c6, c7, rfl, rfl, hpi⟩ := KX.out.reads
        clear hpi
        go_wp2_with fail
        have hnew : Blk (w5.alloc (.cells #[.slice A6 p.slots.length c6, .slice A7 p.vols.length c7] 30)) w5.heap.size #[.slice A6 p.slots.length c6, .slice A7 p.vols.length c7] 30 := Blk.new _ _ _
        have hb : Bel w5 (w5.alloc (.cells #[.slice A6 p.slots.length c6, .slice A7 p.vols.length c7] 30)) := bel_alloc (Below.refl _ _) _
        have hsz : (w5.alloc (.cells #[.slice A6 p.slots.length c6, .slice A7 p.vols.length c7] 30)).heap.size = w5.heap.size + 1 := by simp
        generalize w5.alloc (.cells #[.slice A6 p.slots.length c6, .slice A7 p.vols.length c7] 30) = W6 at hnew hb hsz ⊢
        replace KB := Lib.hid (KB.out.bel hb)
        replace KP := Lib.hid (KP.out.bel hb)
        replace KQ := Lib.hid (KQ.out.bel hb)
        replace K6 := Lib.hid (K6.out.bel hb)
        replace KX := Lib.hid (KX.out.bel hb)
        replace KW := Lib.hid (KW.out.trans (Below.mono hb (Below.size KW.out)))
        replace KZ := Lib.hid (show w.heap.size < W6.heap.size from Nat.lt_of_lt_of_le KZ.out hb.size)
        obtain ⟨b8, hbn⟩ : ∃ b, w5.heap.size = b := ⟨_, rfl⟩
        rw [hbn] at hnew hsz ⊢
        have K8 := Lib.hid hnew
        have K8Z := Lib.hid (And.intro hbn hsz)
        clear hnew hb hsz hbn
        have hpi : PoolIn W6 A6 A7 c6 c7 p := by obtain ⟨B6, B7, d6, d7, e6, e7, h⟩ := KX.out.reads; have e6 := slice_eq e6; have e7 := slice_eq e7; obtain ⟨rfl, -, rfl⟩ := e6; obtain ⟨rfl, -, rfl⟩ := e7; exact h
        refine (implPoolWrite_c (name := name) (blk := blk) (text := text) hpi HS.out (by omega)).mono ?_
        rintro e w7 ⟨v8, v9, bvsG, rfl, hoG, hb⟩
        rw [KQE.out] at hoG
        rw [KOE.out]
        clear hpi
        replace KB := Lib.hid (KB.out.bel hb)
        replace KP := Lib.hid (KP.out.bel hb)
        replace KQ := Lib.hid (KQ.out.bel hb)
        replace K6 := Lib.hid (K6.out.bel hb)
        replace KX := Lib.hid (KX.out.bel hb)
        replace K8 := Lib.hid (K8.out.bel hb)
        replace KW := Lib.hid (KW.out.trans (Below.mono hb (Below.size KW.out)))
        replace KZ := Lib.hid (show w.heap.size < w7.heap.size from Nat.lt_of_lt_of_le KZ.out hb.size)
        have KGZ := Lib.hid (show W6.heap.size ≤ w7.heap.size from hb.size)
        have KG := Lib.hid (OwnP.at hoG)
        clear hoG hb
        obtain ⟨A8, A9, c8, c9, rfl, rfl, hpi⟩ := KG.out.reads
        clear hpi
        have q0 := K6.out.cell 0
        have q1 := K6.out.cell 1
        have y0 := K6.out.lt
        simp at q0 q1
        go_wp2_with fail
        clear q0 q1 y0
        have hnew : Blk (w7.alloc (.cells #[.slice A8 q.slots.length c8, .slice A9 q.vols.length c9] 30)) w7.heap.size #[.slice A8 q.slots.length c8, .slice A9 q.vols.length c9] 30 := Blk.new _ _ _
        have hb : Bel w7 (w7.alloc (.cells #[.slice A8 q.slots.length c8, .slice A9 q.vols.length c9] 30)) := bel_alloc (Below.refl _ _) _
        have hsz : (w7.alloc (.cells #[.slice A8 q.slots.length c8, .slice A9 q.vols.length c9] 30)).heap.size = w7.heap.size + 1 := by simp
        generalize w7.alloc (.cells #[.slice A8 q.slots.length c8, .slice A9 q.vols.length c9] 30) = W8 at hnew hb hsz ⊢
        replace KB := Lib.hid (KB.out.bel hb)
        replace KP := Lib.hid (KP.out.bel hb)
        replace KQ := Lib.hid (KQ.out.bel hb)
        replace K6 := Lib.hid (K6.out.bel hb)
        replace KX := Lib.hid (KX.out.bel hb)
        replace K8 := Lib.hid (K8.out.bel hb)
        replace KG := Lib.hid (KG.out.bel hb)
        replace KW := Lib.hid (KW.out.trans (Below.mono hb (Below.size KW.out)))
        replace KZ := Lib.hid (show w.heap.size < W8.heap.size from Nat.lt_of_lt_of_le KZ.out hb.size)
        obtain ⟨b9, hbn⟩ : ∃ b, w7.heap.size = b := ⟨_, rfl⟩
        rw [hbn] at hnew hsz ⊢
        have K9 := Lib.hid hnew
        have K9Z := Lib.hid (And.intro hbn hsz)
        clear hnew hb hsz hbn
        have hpiKG : PoolIn W8 A8 A9 c8 c9 q := by obtain ⟨B6, B7, d6, d7, e6, e7, h⟩ := KG.out.reads; have e6 := slice_eq e6; have e7 := slice_eq e7; obtain ⟨rfl, -, rfl⟩ := e6; obtain ⟨rfl, -, rfl⟩ := e7; exact h
        have hpiKQ : PoolIn W8 A4 A5 c4 c5 q := by obtain ⟨B6, B7, d6, d7, e6, e7, h⟩ := KQ.out.reads; have e6 := slice_eq e6; have e7 := slice_eq e7; obtain ⟨rfl, -, rfl⟩ := e6; obtain ⟨rfl, -, rfl⟩ := e7; exact h
        refine (eqPool_c hpiKG hpiKQ KQS.out).mono ?_
        rintro e w9 ⟨rfl, hb⟩
        clear hpiKG hpiKQ
        replace KB := Lib.hid (KB.out.bel hb)
        replace KP := Lib.hid (KP.out.bel hb)
        replace KQ := Lib.hid (KQ.out.bel hb)
        replace K6 := Lib.hid (K6.out.bel hb)
        replace KX := Lib.hid (KX.out.bel hb)
        replace K8 := Lib.hid (K8.out.bel hb)
        replace KG := Lib.hid (KG.out.bel hb)
        replace K9 := Lib.hid (K9.out.bel hb)
        replace KW := Lib.hid (KW.out.trans (Below.mono hb (Below.size KW.out)))
        replace KZ := Lib.hid (show w.heap.size < w9.heap.size from Nat.lt_of_lt_of_le KZ.out hb.size)
        clear hb
        have q0 := K8.out.cell 0
        have q1 := K8.out.cell 1
        have y0 := K8.out.lt
        have q2 := KB.out.cell 0
        have q3 := KB.out.cell 1
        have y2 := KB.out.lt
        simp at q0 q1 q2 q3
        go_wp2
        have hpiKX : PoolIn w9 A6 A7 c6 c7 p := by obtain ⟨B6, B7, d6, d7, e6, e7, h⟩ := KX.out.reads; have e6 := slice_eq e6; have e7 := slice_eq e7; obtain ⟨rfl, -, rfl⟩ := e6; obtain ⟨rfl, -, rfl⟩ := e7; exact h
        have KXI := Lib.hid hpiKX
        clear hpiKX
        have HT := Lib.hid (toPool_c (KP.out.bel (Below.refl _ _).drew) HS.out)
        refine start_ (n := 5) (S := fun w' => w'.cell? ⟨b8, 0, none⟩ = some (.slice A6 p.slots.length c6) ∧ w'.cell? ⟨b8, 1, none⟩ = some (.slice A7 p.vols.length c7) ∧ w'.cell? ⟨w.heap.size, 0, none⟩ = some (.slice A0 p.slots.length c0) ∧ w'.cell? ⟨w.heap.size, 1, none⟩ = some (.slice A1 p.vols.length c1)) (ds := []) #[false, false, false, false, false] (by kernel_rfl) rfl rfl ⟨q0, q1, q2, q3⟩ (fun hHeld => ?_)
        refine take_ (i := 0) (N := some 59) (v := ?_) (a' := ?_) #[true, false, false, false, false] rfl rfl (by kernel_rfl) (fun _ _ _ h => h) (Or.inl ⟨by rfl, ?_⟩) hHeld ?_ ?_
        rotate_left
        · rintro w' ⟨s0, s1, s2, s3⟩
          go_simp
          with_reducible rfl
        rotate_left
        · simp only [Act.put, List.setIfInBounds_toArray, List.set_cons_zero, List.set_cons_succ, i64_w, i32_w]
          rfl
        refine take_ (i := 1) (N := some 60) (v := ?_) (a' := ?_) #[true, true, false, false, false] rfl rfl (by kernel_rfl) (fun _ _ _ h => h) (Or.inl ⟨by rfl, ?_⟩) hHeld ?_ ?_
        rotate_left
        · rintro w' ⟨s0, s1, s2, s3⟩
          go_simp
          with_reducible rfl
        rotate_left
        · simp only [Act.put, List.setIfInBounds_toArray, List.set_cons_zero, List.set_cons_succ, i64_w, i32_w]
          rfl
        refine one_ (i := 2) (N := some 61) #[true, true, true, false, false] rfl rfl (by kernel_rfl) (by decide) (fun K hK => ?_)
        refine goes_ Try.func26 (by kernel_rfl) rfl #[.agg #[.slice A0 p.slots.length c0, .slice A1 p.vols.length c1]] (by rfl) rfl rfl (by simp only [List.map_toArray, List.map_cons, List.map_nil]; rfl) ?_
        with_reducible refine (HT.out).mono ?_
        rintro e w10 ⟨v10, v11, bvsT, rfl, hoT, hbT⟩
        obtain ⟨AT, AU, cT, cU, rfl, rfl, hpiT⟩ := hoT.reads
        have KT := Lib.hid hpiT
        clear hpiT hoT
        have hbT' : Bel w9 w10 := Bel.tr (b := w9.drew) (Below.refl _ _).drew hbT
        have u0 := (K8.out.bel hbT').cell 0
        have u1 := (K8.out.bel hbT').cell 1
        have u2 := (KB.out.bel hbT').cell 0
        have u3 := (KB.out.bel hbT').cell 1
        simp at u0 u1 u2 u3
        clear hbT
        refine ⟨_, rfl, ?_⟩
        refine hK.out _ _ ⟨u0, u1, u2, u3⟩ (fun hHeld => ?_)
        clear hK K
        refine norm_ (a' := ?_) ?_ ?_
        rotate_left
        · show Act.put _ (some 61) _ = _
          simp only [Act.put, List.setIfInBounds_toArray, List.set_cons_zero, List.set_cons_succ, i64_w, i32_w]
          rfl
        refine one_ (i := 3) (N := some 62) #[true, true, true, true, false] rfl rfl (by kernel_rfl) (by decide) (fun K hK => ?_)
        refine goes_ Try.func28 (by kernel_rfl) rfl #[.agg #[.slice A6 p.slots.length c6, .slice A7 p.vols.length c7], .agg #[.slice AT p.slots.length cT, .slice AU p.vols.length cU]] (by rfl) rfl rfl (by simp only [List.map_toArray, List.map_cons, List.map_nil]; rfl) ?_
        with_reducible refine (eqPool_c (KXI.out.bel hbT') KT.out HS.out).mono ?_
        rintro e w11 ⟨rfl, hbE⟩
        have u4 := (K8.out.bel (hbT'.tr hbE)).cell 0
        have u5 := (K8.out.bel (hbT'.tr hbE)).cell 1
        have u6 := (KB.out.bel (hbT'.tr hbE)).cell 0
        have u7 := (KB.out.bel (hbT'.tr hbE)).cell 1
        simp at u4 u5 u6 u7
        refine ⟨_, rfl, ?_⟩
        refine hK.out _ _ ⟨u4, u5, u6, u7⟩ (fun hHeld => ?_)
        clear hK K
        refine norm_ (a' := ?_) ?_ ?_
        rotate_left
        · show Act.put _ (some 62) _ = _
          simp only [Act.put, List.setIfInBounds_toArray, List.set_cons_zero, List.set_cons_succ, i64_w, i32_w]
          rfl
        refine pure_ (i := 4) (N := some 63) (v := ?_) (a' := ?_) #[true, true, true, true, true] rfl rfl (by kernel_rfl) (fun _ _ _ h => h) (Or.inl ⟨by rfl, ?_⟩) ?_ ?_
        rotate_left
        · intro w'
          go_simp
          with_reducible rfl
        rotate_left
        · simp only [Act.put, List.setIfInBounds_toArray, List.set_cons_zero, List.set_cons_succ, i64_w, i32_w]
          rfl
        refine done_ (by kernel_rfl) ?_
        have hb : Bel w9 w11 := hbT'.tr hbE
        clear u0 u1 u2 u3 u4 u5 u6 u7 hHeld q0 q1 q2 q3 y0 y2 hbT' hbE KXI HT
        replace KB := Lib.hid (KB.out.bel hb)
        replace KP := Lib.hid (KP.out.bel hb)
        replace KQ := Lib.hid (KQ.out.bel hb)
        replace K6 := Lib.hid (K6.out.bel hb)
        replace KX := Lib.hid (KX.out.bel hb)
        replace K8 := Lib.hid (K8.out.bel hb)
        replace KG := Lib.hid (KG.out.bel hb)
        replace K9 := Lib.hid (K9.out.bel hb)
        replace KW := Lib.hid (KW.out.trans (Below.mono hb (Below.size KW.out)))
        replace KZ := Lib.hid (show w.heap.size < w11.heap.size from Nat.lt_of_lt_of_le KZ.out hb.size)
        clear hb
        have q0 := K8.out.cell 0
        have q1 := K8.out.cell 1
        have y0 := K8.out.lt
        simp at q0 q1
        go_wp2_with fail
        clear q0 q1 y0
        refine (markA_c KX.out HS.out (by omega) (by omega)).mono ?_
        rintro e w12 ⟨rfl, ⟨px, hx1, hx2, hx3, hx4, hx5, hx6⟩, hwi⟩
        have z6 := K6Z.out
        have z8 := K8Z.out
        have z9 := K9Z.out
        have zx := KXZ.out
        have zg := KGZ.out
        have zw : w.heap.size < b6 := by have := KZ6.out; omega
        replace KB := Lib.hid (KB.out.within hwi (by omega))
        replace KP := Lib.hid (HP.out.bel (KW.out.trans (Within.below hwi (Below.size KW.out) (by omega))))
        replace KQ := Lib.hid (KQ.out.within hwi (by omega))
        replace K6 := Lib.hid (K6.out.within hwi (by omega))
        replace K8 := Lib.hid (K8.out.within hwi (by omega))
        replace KG := Lib.hid (KG.out.within hwi (by omega))
        replace K9 := Lib.hid (K9.out.within hwi (by omega))
        replace KW := Lib.hid (KW.out.trans (Within.below hwi (Below.size KW.out) (by omega)))
        replace KZ := Lib.hid (show w.heap.size < w12.heap.size from Nat.lt_of_lt_of_le KZ.out (Within.size hwi))
        clear KX hx1 hx2 hx3 hx4 hx5 hx6 hwi z6 z8 z9 zx zg zw
        have KN := Lib.hid (nxP_bd HS.out (k := 1) (by omega) (by omega))
        have hneg : ¬ (nxP 1 p < 0) := by have := KN.out; omega
        have q0 := K9.out.cell 0
        have q1 := K9.out.cell 1
        have y0 := K9.out.lt
        have q2 := K6.out.cell 0
        have q3 := K6.out.cell 1
        have y2 := K6.out.lt
        simp at q0 q1 q2 q3
        go_wp2_with fail
        clear q0 q1 q2 q3 y0 y2
        have hpiKG : PoolIn w12 A8 A9 c8 c9 q := by obtain ⟨B6, B7, d6, d7, e6, e7, h⟩ := KG.out.reads; have e6 := slice_eq e6; have e7 := slice_eq e7; obtain ⟨rfl, -, rfl⟩ := e6; obtain ⟨rfl, -, rfl⟩ := e7; exact h
        have hpiKQ : PoolIn w12 A4 A5 c4 c5 q := by obtain ⟨B6, B7, d6, d7, e6, e7, h⟩ := KQ.out.reads; have e6 := slice_eq e6; have e7 := slice_eq e7; obtain ⟨rfl, -, rfl⟩ := e6; obtain ⟨rfl, -, rfl⟩ := e7; exact h
        refine (eqPool_c hpiKG hpiKQ KQS.out).mono ?_
        rintro e w13 ⟨rfl, hb⟩
        clear hpiKG hpiKQ
        replace KB := Lib.hid (KB.out.bel hb)
        replace KP := Lib.hid (KP.out.bel hb)
        replace KQ := Lib.hid (KQ.out.bel hb)
        replace K6 := Lib.hid (K6.out.bel hb)
        replace K8 := Lib.hid (K8.out.bel hb)
        replace KG := Lib.hid (KG.out.bel hb)
        replace K9 := Lib.hid (K9.out.bel hb)
        replace KW := Lib.hid (KW.out.trans (Below.mono hb (Below.size KW.out)))
        replace KZ := Lib.hid (show w.heap.size < w13.heap.size from Nat.lt_of_lt_of_le KZ.out hb.size)
        clear hb
        have q0 := K9.out.cell 0
        have q1 := K9.out.cell 1
        have y0 := K9.out.lt
        simp at q0 q1
        go_wp2_with fail
        clear q0 q1 y0
        refine (markA_c KG.out KQS.out (by omega) (by omega)).mono ?_
        rintro e w14 ⟨rfl, ⟨qg, hg1, hg2, hg2v, hg3, hg4, hg5⟩, hwi⟩
        have z6 := K6Z.out
        have z8 := K8Z.out
        have z9 := K9Z.out
        have zx := KXZ.out
        have zg := KGZ.out
        have zw : w.heap.size < b6 := by have := KZ6.out; omega
        replace KB := Lib.hid (KB.out.within hwi (by omega))
        replace KP := Lib.hid (HP.out.bel (KW.out.trans (Within.below hwi (Below.size KW.out) (by omega))))
        replace KQ := Lib.hid (KQ.out.within hwi (by omega))
        replace K6 := Lib.hid (K6.out.within hwi (by omega))
        replace K8 := Lib.hid (K8.out.within hwi (by omega))
        replace K9 := Lib.hid (K9.out.within hwi (by omega))
        replace KW := Lib.hid (KW.out.trans (Within.below hwi (Below.size KW.out) (by omega)))
        replace KZ := Lib.hid (show w.heap.size < w14.heap.size from Nat.lt_of_lt_of_le KZ.out (Within.size hwi))
        replace KG := Lib.hid hg5
        have KGM := Lib.hid (And.intro hg1 (And.intro hg3 hg4))
        have KGL := Lib.hid (And.intro hg2 hg2v)
        clear hg1 hg2 hg2v hg3 hg4 hg5 hwi z6 z8 z9 zx zg zw hneg KN
        have KN := Lib.hid (nxP_bd KQS.out (k := 1) (by omega) (by omega))
        have hneg : ¬ (nxP 1 q < 0) := by have := KN.out; omega
        have q0 := K9.out.cell 0
        have q1 := K9.out.cell 1
        have y0 := K9.out.lt
        simp at q0 q1
        go_wp2_with fail
        clear q0 q1 y0
        have hpiG : PoolIn w14 A8 A9 c8 c9 qg := by obtain ⟨B6, B7, d6, d7, e6, e7, h⟩ := KG.out.reads; have e6 := slice_eq e6; have e7 := slice_eq e7; obtain ⟨rfl, -, rfl⟩ := e6; obtain ⟨rfl, -, rfl⟩ := e7; exact h
        have hheld := heldPool_c hpiG KGM.out.2.2 KGM.out.1 (by omega) (by omega)
        rw [KGM.out.2.1, KGL.out.1, KGL.out.2] at hheld
        refine hheld.mono ?_
        rintro e w15 ⟨rfl, hb⟩
        clear hpiG hheld
        replace KB := Lib.hid (KB.out.bel hb)
        replace KP := Lib.hid (KP.out.bel hb)
        replace KQ := Lib.hid (KQ.out.bel hb)
        replace K6 := Lib.hid (K6.out.bel hb)
        replace K8 := Lib.hid (K8.out.bel hb)
        replace KG := Lib.hid (KG.out.bel hb)
        replace K9 := Lib.hid (K9.out.bel hb)
        replace KW := Lib.hid (KW.out.trans (Below.mono hb (Below.size KW.out)))
        replace KZ := Lib.hid (show w.heap.size < w15.heap.size from Nat.lt_of_lt_of_le KZ.out hb.size)
        clear hb
        have q0 := KB.out.cell 0
        have q1 := KB.out.cell 1
        have y0 := KB.out.lt
        simp at q0 q1
        go_wp2_with fail
        clear q0 q1 y0
        refine (toPool_c KP.out HS.out).mono ?_
        rintro e w16 ⟨v12, v13, bvsZ, rfl, hoZ, hb⟩
        replace KB := Lib.hid (KB.out.bel hb)
        replace KP := Lib.hid (KP.out.bel hb)
        replace KQ := Lib.hid (KQ.out.bel hb)
        replace K6 := Lib.hid (K6.out.bel hb)
        replace K8 := Lib.hid (K8.out.bel hb)
        replace KG := Lib.hid (KG.out.bel hb)
        replace K9 := Lib.hid (K9.out.bel hb)
        replace KW := Lib.hid (KW.out.trans (Below.mono hb (Below.size KW.out)))
        replace KZ := Lib.hid (show w.heap.size < w16.heap.size from Nat.lt_of_lt_of_le KZ.out hb.size)
        obtain ⟨AZ, BZ, cZ, dZ, rfl, rfl, hpi⟩ := hoZ.reads
        clear hb hoZ
        go_wp2_with fail
        refine (implPoolWrite_c (name := name) (blk := blk) (text := text) hpi HS.out (by omega)).mono ?_
        rintro e w17 ⟨v14, v15, bvsH, rfl, hoH, hb⟩
        rw [KQE.out] at hoH
        rw [KOE.out]
        clear hpi
        replace KB := Lib.hid (KB.out.bel hb)
        replace KP := Lib.hid (KP.out.bel hb)
        replace KQ := Lib.hid (KQ.out.bel hb)
        replace K6 := Lib.hid (K6.out.bel hb)
        replace K8 := Lib.hid (K8.out.bel hb)
        replace KG := Lib.hid (KG.out.bel hb)
        replace K9 := Lib.hid (K9.out.bel hb)
        replace KW := Lib.hid (KW.out.trans (Below.mono hb (Below.size KW.out)))
        replace KZ := Lib.hid (show w.heap.size < w17.heap.size from Nat.lt_of_lt_of_le KZ.out hb.size)
        have KH := Lib.hid (OwnP.at hoH)
        clear hoH hb
        obtain ⟨AH, BH, cH, dH, rfl, rfl, hpi⟩ := KH.out.reads
        clear hpi
        have q0 := K6.out.cell 0
        have q1 := K6.out.cell 1
        have y0 := K6.out.lt
        simp at q0 q1
        go_wp2_with fail
        clear q0 q1 y0
        have hnew : Blk (w17.alloc (.cells #[.slice AH q.slots.length cH, .slice BH q.vols.length dH] 30)) w17.heap.size #[.slice AH q.slots.length cH, .slice BH q.vols.length dH] 30 := Blk.new _ _ _
        have hb : Bel w17 (w17.alloc (.cells #[.slice AH q.slots.length cH, .slice BH q.vols.length dH] 30)) := bel_alloc (Below.refl _ _) _
        have hsz : (w17.alloc (.cells #[.slice AH q.slots.length cH, .slice BH q.vols.length dH] 30)).heap.size = w17.heap.size + 1 := by simp
        generalize w17.alloc (.cells #[.slice AH q.slots.length cH, .slice BH q.vols.length dH] 30) = W18 at hnew hb hsz ⊢
        replace KB := Lib.hid (KB.out.bel hb)
        replace KP := Lib.hid (KP.out.bel hb)
        replace KQ := Lib.hid (KQ.out.bel hb)
        replace K6 := Lib.hid (K6.out.bel hb)
        replace K8 := Lib.hid (K8.out.bel hb)
        replace KG := Lib.hid (KG.out.bel hb)
        replace K9 := Lib.hid (K9.out.bel hb)
        replace KH := Lib.hid (KH.out.bel hb)
        replace KW := Lib.hid (KW.out.trans (Below.mono hb (Below.size KW.out)))
        replace KZ := Lib.hid (show w.heap.size < W18.heap.size from Nat.lt_of_lt_of_le KZ.out hb.size)
        obtain ⟨b14, hbn⟩ : ∃ b, w17.heap.size = b := ⟨_, rfl⟩
        rw [hbn] at hnew hsz ⊢
        have K14 := Lib.hid hnew
        have K14Z := Lib.hid (And.intro hbn hsz)
        clear hnew hb hsz hbn
        have hpiKH : PoolIn W18 AH BH cH dH q := by obtain ⟨B6, B7, d6, d7, e6, e7, h⟩ := KH.out.reads; have e6 := slice_eq e6; have e7 := slice_eq e7; obtain ⟨rfl, -, rfl⟩ := e6; obtain ⟨rfl, -, rfl⟩ := e7; exact h
        have hpiKQ : PoolIn W18 A4 A5 c4 c5 q := by obtain ⟨B6, B7, d6, d7, e6, e7, h⟩ := KQ.out.reads; have e6 := slice_eq e6; have e7 := slice_eq e7; obtain ⟨rfl, -, rfl⟩ := e6; obtain ⟨rfl, -, rfl⟩ := e7; exact h
        refine (eqPool_c hpiKH hpiKQ KQS.out).mono ?_
        rintro e w19 ⟨rfl, hb⟩
        clear hpiKH hpiKQ
        replace KB := Lib.hid (KB.out.bel hb)
        replace KP := Lib.hid (KP.out.bel hb)
        replace KQ := Lib.hid (KQ.out.bel hb)
        replace K6 := Lib.hid (K6.out.bel hb)
        replace K8 := Lib.hid (K8.out.bel hb)
        replace KG := Lib.hid (KG.out.bel hb)
        replace K9 := Lib.hid (K9.out.bel hb)
        replace KH := Lib.hid (KH.out.bel hb)
        replace K14 := Lib.hid (K14.out.bel hb)
        replace KW := Lib.hid (KW.out.trans (Below.mono hb (Below.size KW.out)))
        replace KZ := Lib.hid (show w.heap.size < w19.heap.size from Nat.lt_of_lt_of_le KZ.out hb.size)
        clear hb
        have q0 := K9.out.cell 0
        have q1 := K9.out.cell 1
        have y0 := K9.out.lt
        simp at q0 q1
        go_wp2_with fail
        clear q0 q1 y0
        have hpiG : PoolIn w19 A8 A9 c8 c9 qg := by obtain ⟨B6, B7, d6, d7, e6, e7, h⟩ := KG.out.reads; have e6 := slice_eq e6; have e7 := slice_eq e7; obtain ⟨rfl, -, rfl⟩ := e6; obtain ⟨rfl, -, rfl⟩ := e7; exact h
        have hheld := heldPool_c hpiG KGM.out.2.2 KGM.out.1 (by omega) (by omega)
        rw [KGM.out.2.1, KGL.out.1, KGL.out.2] at hheld
        refine hheld.mono ?_
        rintro e w20 ⟨rfl, hb⟩
        clear hpiG hheld
        replace KB := Lib.hid (KB.out.bel hb)
        replace KP := Lib.hid (KP.out.bel hb)
        replace KQ := Lib.hid (KQ.out.bel hb)
        replace K6 := Lib.hid (K6.out.bel hb)
        replace K8 := Lib.hid (K8.out.bel hb)
        replace KG := Lib.hid (KG.out.bel hb)
        replace K9 := Lib.hid (K9.out.bel hb)
        replace KH := Lib.hid (KH.out.bel hb)
        replace K14 := Lib.hid (K14.out.bel hb)
        replace KW := Lib.hid (KW.out.trans (Below.mono hb (Below.size KW.out)))
        replace KZ := Lib.hid (show w.heap.size < w20.heap.size from Nat.lt_of_lt_of_le KZ.out hb.size)
        clear hb
        go_wp2
        go_ret
        exact ⟨rfl, KW.out⟩
end Go.Proofs.Ytpobgjkmjlmafaa

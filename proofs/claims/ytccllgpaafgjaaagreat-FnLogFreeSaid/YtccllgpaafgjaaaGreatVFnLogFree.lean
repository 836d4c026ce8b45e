/- The law FnLogFree: its body walked. -/
import Derived.Test.YtccllgpaafgjaaaGreatV1
import Derived.Test.YtccllgpaafgjaaaGreatV2
import Derived.Test.YtccllgpaafgjaaaGreatV3
import Derived.Test.YtccllgpaafgjaaaGreatV4
import Derived.Test.YtccllgpaafgjaaaGreatV5
import Derived.Test.YtccllgpaafgjaaaGreatV6
import Derived.Test.YtccllgpaafgjaaaGreatV7
import Derived.Test.YtccllgpaafgjaaaGreatV8
import Derived.Test.YtccllgpaafgjaaaGreatV9
import Derived.Test.YtccllgpaafgjaaaGreatV10
import Derived.Test.YtccllgpaafgjaaaGreatV11
import Derived.Test.YtccllgpaafgjaaaGreatV12
namespace Go.Proofs.YtccllgpaafgjaaaGreat
open Go.RowKit Go.Proofs.YtccllgpaafgjaaaGreatW.PrintWords Go.Proofs.YtccllgpaafgjaaaGreatW.PrintLast
set_option linter.unusedVariables false
set_option linter.unusedSimpArgs false

set_option maxHeartbeats 32000000 in
set_option maxRecDepth 10000 in
theorem lawFnLogFree_c {w : World} {A : Option Addr} {n c : Nat} {bs : List Int} (h : CodeIn w A n c bs) (hn : n ≤ 9223372036854775807) :
    Calls Tryz.prog 10 #[.slice A n c] w (Ret (.bool true) w) := by
  have H := Lib.hid h
  clear h
  go_enter Tryz.func10, Tryz.ntmps10
  by_cases hlen : (1048576 : Int) < (n : Int)
  · go_wp2
    go_ret
    exact ⟨rfl, Below.refl _ _⟩
  go_wp2_with fail
  refine (drawLogPool_c H.out hn).mono ?_
  rintro e w1 ⟨Al, Bl, Cl, al, bl, cl, l, rfl, hd, hin, hb⟩
  have HSl := Lib.hid hd.small
  have hll := hd.len
  have Jl := Lib.hid hin
  have KW := Lib.hid hb
  clear hd hin hb
  obtain ⟨p, hpf⟩ : ∃ p, poolF l = p := ⟨_, rfl⟩
  have HPF := Lib.hid hpf
  have HSp := Lib.hid (hpf ▸ poolF_small : SmallP p)
  clear hpf
  go_wp2_with fail
  have hnew := LVar.new Jl.out
  have hb : Bel w1 (w1.alloc (.cells #[.slice Al l.base.slots.length al, .slice Bl l.base.vols.length bl, .slice Cl l.ops.length cl, .int .i64 l.safe] 44)) := bel_alloc (Below.refl _ _) _
  generalize w1.alloc (.cells #[.slice Al l.base.slots.length al, .slice Bl l.base.vols.length bl, .slice Cl l.ops.length cl, .int .i64 l.safe] 44) = W2 at hnew hb ⊢
  replace Jl := Lib.hid (Jl.out.bel hb)
  replace KW := Lib.hid (KW.out.tr hb)
  obtain ⟨bkl, hbn⟩ : ∃ b, w1.heap.size = b := ⟨_, rfl⟩
  rw [hbn] at hnew ⊢
  have Vl := Lib.hid hnew
  clear hnew hb hbn Jl
  refine (implLogPool_n Vl.out.inn HSl.out HPF.out).mono ?_
  rintro e w3 ⟨Ap, Bp, cp, dp, rfl, hin, hb⟩
  replace Vl := Lib.hid (Vl.out.bel hb)
  replace KW := Lib.hid (KW.out.tr hb)
  have Ip := Lib.hid hin
  clear hin hb
  cases hok : logOk l
  · have HOK := Lib.hid hok
    clear hok
    have el0 := Vl.out.c0
    have el1 := Vl.out.c1
    have el2 := Vl.out.c2
    have el3 := Vl.out.c3
    have eyl := Vl.out.lt
    go_wp2
    clear el0 el1 el2 el3 eyl
    have hnew := PVar.new Ip.out
    have hb : Bel w3 (w3.alloc (.cells #[.slice Ap p.slots.length cp, .slice Bp p.vols.length dp] 42)) := bel_alloc (Below.refl _ _) _
    generalize w3.alloc (.cells #[.slice Ap p.slots.length cp, .slice Bp p.vols.length dp] 42) = W4 at hnew hb ⊢
    replace Vl := Lib.hid (Vl.out.bel hb)
    replace Ip := Lib.hid (Ip.out.bel hb)
    replace KW := Lib.hid (KW.out.tr hb)
    obtain ⟨bkp, hbn⟩ : ∃ b, w3.heap.size = b := ⟨_, rfl⟩
    rw [hbn] at hnew ⊢
    have Pp := Lib.hid hnew
    clear hnew hb hbn Ip
    have hb : Bel W4 W4.drew := (Below.refl _ _).drew
    replace Vl := Lib.hid (Vl.out.bel hb)
    replace Pp := Lib.hid (Pp.out.bel hb)
    replace KW := Lib.hid (KW.out.tr hb)
    clear hb
    refine start_ (n := 10) (S := fun w' => w'.cell? ⟨bkp, 0, none⟩ = some (.slice Ap p.slots.length cp) ∧ w'.cell? ⟨bkp, 1, none⟩ = some (.slice Bp p.vols.length dp) ∧ w'.cell? ⟨bkl, 0, none⟩ = some (.slice Al l.base.slots.length al) ∧ w'.cell? ⟨bkl, 1, none⟩ = some (.slice Bl l.base.vols.length bl) ∧ w'.cell? ⟨bkl, 2, none⟩ = some (.slice Cl l.ops.length cl) ∧ w'.cell? ⟨bkl, 3, none⟩ = some (.int .i64 l.safe)) (ds := []) #[bF, bF, bF, bF, bF, bF, bF, bF, bF, bF] (by kernel_rfl) rfl rfl ⟨Pp.out.c0, Pp.out.c1, Vl.out.c0, Vl.out.c1, Vl.out.c2, Vl.out.c3⟩ (fun hHeld => ?_)
    refine take_ (i := 0) (N := some 12) (v := ?_) (a' := ?_) #[bT, bF, bF, bF, bF, bF, bF, bF, bF, bF] rfl rfl (by kernel_rfl) (fun _ _ _ h => h) (Or.inl ⟨by rfl, ?_⟩) hHeld ?_ ?_
    rotate_left
    · rintro w' ⟨s0, s1, s2, s3, s4, s5⟩
      go_simp
      with_reducible rfl
    rotate_left
    · simp only [Act.put, lA, lB, lC, i64_w, i32_w]
      rfl
    refine take_ (i := 1) (N := some 13) (v := ?_) (a' := ?_) #[bT, bT, bF, bF, bF, bF, bF, bF, bF, bF] rfl rfl (by kernel_rfl) (fun _ _ _ h => h) (Or.inl ⟨by rfl, ?_⟩) hHeld ?_ ?_
    rotate_left
    · rintro w' ⟨s0, s1, s2, s3, s4, s5⟩
      go_simp
      with_reducible rfl
    rotate_left
    · simp only [Act.put, lA, lB, lC, i64_w, i32_w]
      rfl
    refine one_ (i := 2) (N := some 14) #[bT, bT, bT, bF, bF, bF, bF, bF, bF, bF] rfl rfl (by kernel_rfl) (by decide) (fun K hK => ?_)
    refine goes_ Tryz.func57 (by kernel_rfl) rfl #[.agg #[.slice Al l.base.slots.length al, .slice Bl l.base.vols.length bl, .slice Cl l.ops.length cl, .int .i64 l.safe]] (by rfl) rfl rfl (by simp only [List.map_toArray, List.map_cons, List.map_nil]; rfl) ?_
    with_reducible refine (specLogPool_n Vl.out.inn HSl.out HPF.out).mono ?_
    rintro e w5 ⟨Ay5, By5, cy5, dy5, rfl, hin, hb⟩
    replace Vl := Lib.hid (Vl.out.bel hb)
    replace Pp := Lib.hid (Pp.out.bel hb)
    replace KW := Lib.hid (KW.out.tr hb)
    have Iy5 := Lib.hid hin
    clear hin hb
    refine ⟨_, rfl, ?_⟩
    refine hK.out _ _ ⟨Pp.out.c0, Pp.out.c1, Vl.out.c0, Vl.out.c1, Vl.out.c2, Vl.out.c3⟩ (fun hHeld => ?_)
    clear hK K
    refine norm_ (a' := ?_) ?_ ?_
    rotate_left
    · show Act.put _ (some 14) _ = _
      simp only [Act.put, lA, lB, lC, i64_w, i32_w]
      rfl
    refine one_ (i := 3) (N := some 15) #[bT, bT, bT, bT, bF, bF, bF, bF, bF, bF] rfl rfl (by kernel_rfl) (by decide) (fun K hK => ?_)
    refine goes_ Tryz.func35 (by kernel_rfl) rfl #[.agg #[.slice Ap p.slots.length cp, .slice Bp p.vols.length dp], .agg #[.slice Ay5 p.slots.length cy5, .slice By5 p.vols.length dy5]] (by rfl) rfl rfl (by simp only [List.map_toArray, List.map_cons, List.map_nil]; rfl) ?_
    with_reducible refine (lgPool_c Pp.out.inn Iy5.out HSp.out).mono ?_
    rintro e w6 ⟨rfl, hb⟩
    replace Vl := Lib.hid (Vl.out.bel hb)
    replace Pp := Lib.hid (Pp.out.bel hb)
    replace Iy5 := Lib.hid (Iy5.out.bel hb)
    replace KW := Lib.hid (KW.out.tr hb)
    clear hb
    refine ⟨_, rfl, ?_⟩
    refine hK.out _ _ ⟨Pp.out.c0, Pp.out.c1, Vl.out.c0, Vl.out.c1, Vl.out.c2, Vl.out.c3⟩ (fun hHeld => ?_)
    clear hK K
    refine norm_ (a' := ?_) ?_ ?_
    rotate_left
    · show Act.put _ (some 15) _ = _
      simp only [Act.put, lA, lB, lC, i64_w, i32_w]
      rfl
    refine pure_ (i := 4) (N := some 16) (v := ?_) (a' := ?_) #[bT, bT, bT, bT, bT, bF, bF, bF, bF, bF] rfl rfl (by kernel_rfl) (fun _ _ _ h => h) (Or.inl ⟨by rfl, ?_⟩) ?_ ?_
    rotate_left
    · intro w'
      go_simp
      with_reducible rfl
    rotate_left
    · simp only [Act.put, lA, lB, lC, i64_w, i32_w]
      rfl
    refine pure_ (i := 5) (N := some 17) (v := ?_) (a' := ?_) #[bT, bT, bT, bT, bT, bT, bF, bF, bF, bF] rfl rfl (by kernel_rfl) (fun _ _ _ h => h) (Or.inl ⟨by rfl, ?_⟩) ?_ ?_
    rotate_left
    · intro w'
      go_simp
      with_reducible rfl
    rotate_left
    · simp only [Act.put, lA, lB, lC, i64_w, i32_w]
      rfl
    refine take_ (i := 6) (N := some 18) (v := ?_) (a' := ?_) #[bT, bT, bT, bT, bT, bT, bT, bF, bF, bF] rfl rfl (by kernel_rfl) (fun _ _ _ h => h) (Or.inl ⟨by rfl, ?_⟩) hHeld ?_ ?_
    rotate_left
    · rintro w' ⟨s0, s1, s2, s3, s4, s5⟩
      go_simp
      with_reducible rfl
    rotate_left
    · simp only [Act.put, lA, lB, lC, i64_w, i32_w]
      rfl
    refine one_ (i := 7) (N := some 19) #[bT, bT, bT, bT, bT, bT, bT, bT, bF, bF] rfl rfl (by kernel_rfl) (by decide) (fun K hK => ?_)
    refine goes_ Tryz.func34 (by kernel_rfl) rfl #[.agg #[.slice Al l.base.slots.length al, .slice Bl l.base.vols.length bl, .slice Cl l.ops.length cl, .int .i64 l.safe]] (by rfl) rfl rfl (by simp only [List.map_toArray, List.map_cons, List.map_nil]; rfl) ?_
    with_reducible refine (specLogOk_n Vl.out.inn HSl.out HOK.out).mono ?_
    rintro e w7 ⟨rfl, hb⟩
    replace Vl := Lib.hid (Vl.out.bel hb)
    replace Pp := Lib.hid (Pp.out.bel hb)
    replace Iy5 := Lib.hid (Iy5.out.bel hb)
    replace KW := Lib.hid (KW.out.tr hb)
    clear hb
    refine ⟨_, rfl, ?_⟩
    refine hK.out _ _ ⟨Pp.out.c0, Pp.out.c1, Vl.out.c0, Vl.out.c1, Vl.out.c2, Vl.out.c3⟩ (fun hHeld => ?_)
    clear hK K
    refine norm_ (a' := ?_) ?_ ?_
    rotate_left
    · show Act.put _ (some 19) _ = _
      simp only [Act.put, lA, lB, lC, i64_w, i32_w]
      rfl
    refine pure_ (i := 8) (N := some 20) (v := ?_) (a' := ?_) #[bT, bT, bT, bT, bT, bT, bT, bT, bT, bF] rfl rfl (by kernel_rfl) (fun _ _ _ h => h) (Or.inl ⟨by rfl, ?_⟩) ?_ ?_
    rotate_left
    · intro w'
      go_simp
      with_reducible rfl
    rotate_left
    · simp only [Act.put, lA, lB, lC, i64_w, i32_w]
      rfl
    refine pure_ (i := 9) (N := some 21) (v := ?_) (a' := ?_) #[bT, bT, bT, bT, bT, bT, bT, bT, bT, bT] rfl rfl (by kernel_rfl) (fun _ _ _ h => h) (Or.inl ⟨by rfl, ?_⟩) ?_ ?_
    rotate_left
    · intro w'
      go_simp
      with_reducible rfl
    rotate_left
    · simp only [Act.put, lA, lB, lC, i64_w, i32_w]
      rfl
    refine done_ (by kernel_rfl) ?_
    have qp0 := Pp.out.c0
    have qp1 := Pp.out.c1
    have yp := Pp.out.lt
    have el0 := Vl.out.c0
    have el1 := Vl.out.c1
    have el2 := Vl.out.c2
    have el3 := Vl.out.c3
    have eyl := Vl.out.lt
    go_wp2
    clear qp0 qp1 yp
    clear el0 el1 el2 el3 eyl
    have hb : Bel w7 w7.drew := (Below.refl _ _).drew
    replace Vl := Lib.hid (Vl.out.bel hb)
    replace Pp := Lib.hid (Pp.out.bel hb)
    replace KW := Lib.hid (KW.out.tr hb)
    clear hb
    refine start_ (n := 5) (S := fun w' => w'.cell? ⟨bkp, 0, none⟩ = some (.slice Ap p.slots.length cp) ∧ w'.cell? ⟨bkp, 1, none⟩ = some (.slice Bp p.vols.length dp) ∧ w'.cell? ⟨bkl, 0, none⟩ = some (.slice Al l.base.slots.length al) ∧ w'.cell? ⟨bkl, 1, none⟩ = some (.slice Bl l.base.vols.length bl) ∧ w'.cell? ⟨bkl, 2, none⟩ = some (.slice Cl l.ops.length cl) ∧ w'.cell? ⟨bkl, 3, none⟩ = some (.int .i64 l.safe)) (ds := []) #[bF, bF, bF, bF, bF] (by kernel_rfl) rfl rfl ⟨Pp.out.c0, Pp.out.c1, Vl.out.c0, Vl.out.c1, Vl.out.c2, Vl.out.c3⟩ (fun hHeld => ?_)
    refine take_ (i := 0) (N := some 22) (v := ?_) (a' := ?_) #[bT, bF, bF, bF, bF] rfl rfl (by kernel_rfl) (fun _ _ _ h => h) (Or.inl ⟨by rfl, ?_⟩) hHeld ?_ ?_
    rotate_left
    · rintro w' ⟨s0, s1, s2, s3, s4, s5⟩
      go_simp
      with_reducible rfl
    rotate_left
    · simp only [Act.put, lA, lB, lC, i64_w, i32_w]
      rfl
    refine take_ (i := 1) (N := some 23) (v := ?_) (a' := ?_) #[bT, bT, bF, bF, bF] rfl rfl (by kernel_rfl) (fun _ _ _ h => h) (Or.inl ⟨by rfl, ?_⟩) hHeld ?_ ?_
    rotate_left
    · rintro w' ⟨s0, s1, s2, s3, s4, s5⟩
      go_simp
      with_reducible rfl
    rotate_left
    · simp only [Act.put, lA, lB, lC, i64_w, i32_w]
      rfl
    refine one_ (i := 2) (N := some 24) #[bT, bT, bT, bF, bF] rfl rfl (by kernel_rfl) (by decide) (fun K hK => ?_)
    refine goes_ Tryz.func57 (by kernel_rfl) rfl #[.agg #[.slice Al l.base.slots.length al, .slice Bl l.base.vols.length bl, .slice Cl l.ops.length cl, .int .i64 l.safe]] (by rfl) rfl rfl (by simp only [List.map_toArray, List.map_cons, List.map_nil]; rfl) ?_
    with_reducible refine (specLogPool_n Vl.out.inn HSl.out HPF.out).mono ?_
    rintro e w8 ⟨Ay6, By6, cy6, dy6, rfl, hin, hb⟩
    replace Vl := Lib.hid (Vl.out.bel hb)
    replace Pp := Lib.hid (Pp.out.bel hb)
    replace KW := Lib.hid (KW.out.tr hb)
    have Iy6 := Lib.hid hin
    clear hin hb
    refine ⟨_, rfl, ?_⟩
    refine hK.out _ _ ⟨Pp.out.c0, Pp.out.c1, Vl.out.c0, Vl.out.c1, Vl.out.c2, Vl.out.c3⟩ (fun hHeld => ?_)
    clear hK K
    refine norm_ (a' := ?_) ?_ ?_
    rotate_left
    · show Act.put _ (some 24) _ = _
      simp only [Act.put, lA, lB, lC, i64_w, i32_w]
      rfl
    refine one_ (i := 3) (N := some 25) #[bT, bT, bT, bT, bF] rfl rfl (by kernel_rfl) (by decide) (fun K hK => ?_)
    refine goes_ Tryz.func35 (by kernel_rfl) rfl #[.agg #[.slice Ap p.slots.length cp, .slice Bp p.vols.length dp], .agg #[.slice Ay6 p.slots.length cy6, .slice By6 p.vols.length dy6]] (by rfl) rfl rfl (by simp only [List.map_toArray, List.map_cons, List.map_nil]; rfl) ?_
    with_reducible refine (lgPool_c Pp.out.inn Iy6.out HSp.out).mono ?_
    rintro e w9 ⟨rfl, hb⟩
    replace Vl := Lib.hid (Vl.out.bel hb)
    replace Pp := Lib.hid (Pp.out.bel hb)
    replace Iy6 := Lib.hid (Iy6.out.bel hb)
    replace KW := Lib.hid (KW.out.tr hb)
    clear hb
    refine ⟨_, rfl, ?_⟩
    refine hK.out _ _ ⟨Pp.out.c0, Pp.out.c1, Vl.out.c0, Vl.out.c1, Vl.out.c2, Vl.out.c3⟩ (fun hHeld => ?_)
    clear hK K
    refine norm_ (a' := ?_) ?_ ?_
    rotate_left
    · show Act.put _ (some 25) _ = _
      simp only [Act.put, lA, lB, lC, i64_w, i32_w]
      rfl
    refine pure_ (i := 4) (N := some 2) (v := ?_) (a' := ?_) #[bT, bT, bT, bT, bT] rfl rfl (by kernel_rfl) (fun _ _ _ h => h) (Or.inl ⟨by rfl, ?_⟩) ?_ ?_
    rotate_left
    · intro w'
      go_simp
      with_reducible rfl
    rotate_left
    · simp only [Act.put, lA, lB, lC, i64_w, i32_w]
      rfl
    refine done_ (by kernel_rfl) ?_
    have qp0 := Pp.out.c0
    have qp1 := Pp.out.c1
    have yp := Pp.out.lt
    have el0 := Vl.out.c0
    have el1 := Vl.out.c1
    have el2 := Vl.out.c2
    have el3 := Vl.out.c3
    have eyl := Vl.out.lt
    go_wp2
    all_goals
      go_ret
      exact ⟨rfl, KW.out⟩
  have HOK := Lib.hid hok
  obtain ⟨q0, hlp⟩ := logOk_iff.1 hok
  obtain rfl : q0 = p := hlp.poolE.symm.trans HPF.out
  have HLP := Lib.hid hlp
  clear hok hlp
  have el0 := Vl.out.c0
  have el1 := Vl.out.c1
  have el2 := Vl.out.c2
  have el3 := Vl.out.c3
  have eyl := Vl.out.lt
  go_wp2
  clear el0 el1 el2 el3 eyl
  have hnew := PVar.new Ip.out
  have hb : Bel w3 (w3.alloc (.cells #[.slice Ap q0.slots.length cp, .slice Bp q0.vols.length dp] 42)) := bel_alloc (Below.refl _ _) _
  generalize w3.alloc (.cells #[.slice Ap q0.slots.length cp, .slice Bp q0.vols.length dp] 42) = W4 at hnew hb ⊢
  replace Vl := Lib.hid (Vl.out.bel hb)
  replace Ip := Lib.hid (Ip.out.bel hb)
  replace KW := Lib.hid (KW.out.tr hb)
  obtain ⟨bkp, hbn⟩ : ∃ b, w3.heap.size = b := ⟨_, rfl⟩
  rw [hbn] at hnew ⊢
  have Pp := Lib.hid hnew
  clear hnew hb hbn Ip
  have hb : Bel W4 W4.drew := (Below.refl _ _).drew
  replace Vl := Lib.hid (Vl.out.bel hb)
  replace Pp := Lib.hid (Pp.out.bel hb)
  replace KW := Lib.hid (KW.out.tr hb)
  clear hb
  refine start_ (n := 10) (S := fun w' => w'.cell? ⟨bkp, 0, none⟩ = some (.slice Ap q0.slots.length cp) ∧ w'.cell? ⟨bkp, 1, none⟩ = some (.slice Bp q0.vols.length dp) ∧ w'.cell? ⟨bkl, 0, none⟩ = some (.slice Al l.base.slots.length al) ∧ w'.cell? ⟨bkl, 1, none⟩ = some (.slice Bl l.base.vols.length bl) ∧ w'.cell? ⟨bkl, 2, none⟩ = some (.slice Cl l.ops.length cl) ∧ w'.cell? ⟨bkl, 3, none⟩ = some (.int .i64 l.safe)) (ds := []) #[bF, bF, bF, bF, bF, bF, bF, bF, bF, bF] (by kernel_rfl) rfl rfl ⟨Pp.out.c0, Pp.out.c1, Vl.out.c0, Vl.out.c1, Vl.out.c2, Vl.out.c3⟩ (fun hHeld => ?_)
  refine take_ (i := 0) (N := some 12) (v := ?_) (a' := ?_) #[bT, bF, bF, bF, bF, bF, bF, bF, bF, bF] rfl rfl (by kernel_rfl) (fun _ _ _ h => h) (Or.inl ⟨by rfl, ?_⟩) hHeld ?_ ?_
  rotate_left
  · rintro w' ⟨s0, s1, s2, s3, s4, s5⟩
    go_simp
    with_reducible rfl
  rotate_left
  · simp only [Act.put, lA, lB, lC, i64_w, i32_w]
    rfl
  refine take_ (i := 1) (N := some 13) (v := ?_) (a' := ?_) #[bT, bT, bF, bF, bF, bF, bF, bF, bF, bF] rfl rfl (by kernel_rfl) (fun _ _ _ h => h) (Or.inl ⟨by rfl, ?_⟩) hHeld ?_ ?_
  rotate_left
  · rintro w' ⟨s0, s1, s2, s3, s4, s5⟩
    go_simp
    with_reducible rfl
  rotate_left
  · simp only [Act.put, lA, lB, lC, i64_w, i32_w]
    rfl
  refine one_ (i := 2) (N := some 14) #[bT, bT, bT, bF, bF, bF, bF, bF, bF, bF] rfl rfl (by kernel_rfl) (by decide) (fun K hK => ?_)
  refine goes_ Tryz.func57 (by kernel_rfl) rfl #[.agg #[.slice Al l.base.slots.length al, .slice Bl l.base.vols.length bl, .slice Cl l.ops.length cl, .int .i64 l.safe]] (by rfl) rfl rfl (by simp only [List.map_toArray, List.map_cons, List.map_nil]; rfl) ?_
  with_reducible refine (specLogPool_n Vl.out.inn HSl.out HPF.out).mono ?_
  rintro e w5 ⟨Ay5, By5, cy5, dy5, rfl, hin, hb⟩
  replace Vl := Lib.hid (Vl.out.bel hb)
  replace Pp := Lib.hid (Pp.out.bel hb)
  replace KW := Lib.hid (KW.out.tr hb)
  have Iy5 := Lib.hid hin
  clear hin hb
  refine ⟨_, rfl, ?_⟩
  refine hK.out _ _ ⟨Pp.out.c0, Pp.out.c1, Vl.out.c0, Vl.out.c1, Vl.out.c2, Vl.out.c3⟩ (fun hHeld => ?_)
  clear hK K
  refine norm_ (a' := ?_) ?_ ?_
  rotate_left
  · show Act.put _ (some 14) _ = _
    simp only [Act.put, lA, lB, lC, i64_w, i32_w]
    rfl
  refine one_ (i := 3) (N := some 15) #[bT, bT, bT, bT, bF, bF, bF, bF, bF, bF] rfl rfl (by kernel_rfl) (by decide) (fun K hK => ?_)
  refine goes_ Tryz.func35 (by kernel_rfl) rfl #[.agg #[.slice Ap q0.slots.length cp, .slice Bp q0.vols.length dp], .agg #[.slice Ay5 q0.slots.length cy5, .slice By5 q0.vols.length dy5]] (by rfl) rfl rfl (by simp only [List.map_toArray, List.map_cons, List.map_nil]; rfl) ?_
  with_reducible refine (lgPool_c Pp.out.inn Iy5.out HSp.out).mono ?_
  rintro e w6 ⟨rfl, hb⟩
  replace Vl := Lib.hid (Vl.out.bel hb)
  replace Pp := Lib.hid (Pp.out.bel hb)
  replace Iy5 := Lib.hid (Iy5.out.bel hb)
  replace KW := Lib.hid (KW.out.tr hb)
  clear hb
  refine ⟨_, rfl, ?_⟩
  refine hK.out _ _ ⟨Pp.out.c0, Pp.out.c1, Vl.out.c0, Vl.out.c1, Vl.out.c2, Vl.out.c3⟩ (fun hHeld => ?_)
  clear hK K
  refine norm_ (a' := ?_) ?_ ?_
  rotate_left
  · show Act.put _ (some 15) _ = _
    simp only [Act.put, lA, lB, lC, i64_w, i32_w]
    rfl
  refine pure_ (i := 4) (N := some 16) (v := ?_) (a' := ?_) #[bT, bT, bT, bT, bT, bF, bF, bF, bF, bF] rfl rfl (by kernel_rfl) (fun _ _ _ h => h) (Or.inl ⟨by rfl, ?_⟩) ?_ ?_
  rotate_left
  · intro w'
    go_simp
    with_reducible rfl
  rotate_left
  · simp only [Act.put, lA, lB, lC, i64_w, i32_w]
    rfl
  refine pure_ (i := 5) (N := some 17) (v := ?_) (a' := ?_) #[bT, bT, bT, bT, bT, bT, bF, bF, bF, bF] rfl rfl (by kernel_rfl) (fun _ _ _ h => h) (Or.inl ⟨by rfl, ?_⟩) ?_ ?_
  rotate_left
  · intro w'
    go_simp
    with_reducible rfl
  rotate_left
  · simp only [Act.put, lA, lB, lC, i64_w, i32_w]
    rfl
  refine take_ (i := 6) (N := some 18) (v := ?_) (a' := ?_) #[bT, bT, bT, bT, bT, bT, bT, bF, bF, bF] rfl rfl (by kernel_rfl) (fun _ _ _ h => h) (Or.inl ⟨by rfl, ?_⟩) hHeld ?_ ?_
  rotate_left
  · rintro w' ⟨s0, s1, s2, s3, s4, s5⟩
    go_simp
    with_reducible rfl
  rotate_left
  · simp only [Act.put, lA, lB, lC, i64_w, i32_w]
    rfl
  refine one_ (i := 7) (N := some 19) #[bT, bT, bT, bT, bT, bT, bT, bT, bF, bF] rfl rfl (by kernel_rfl) (by decide) (fun K hK => ?_)
  refine goes_ Tryz.func34 (by kernel_rfl) rfl #[.agg #[.slice Al l.base.slots.length al, .slice Bl l.base.vols.length bl, .slice Cl l.ops.length cl, .int .i64 l.safe]] (by rfl) rfl rfl (by simp only [List.map_toArray, List.map_cons, List.map_nil]; rfl) ?_
  with_reducible refine (specLogOk_n Vl.out.inn HSl.out HOK.out).mono ?_
  rintro e w7 ⟨rfl, hb⟩
  replace Vl := Lib.hid (Vl.out.bel hb)
  replace Pp := Lib.hid (Pp.out.bel hb)
  replace Iy5 := Lib.hid (Iy5.out.bel hb)
  replace KW := Lib.hid (KW.out.tr hb)
  clear hb
  refine ⟨_, rfl, ?_⟩
  refine hK.out _ _ ⟨Pp.out.c0, Pp.out.c1, Vl.out.c0, Vl.out.c1, Vl.out.c2, Vl.out.c3⟩ (fun hHeld => ?_)
  clear hK K
  refine norm_ (a' := ?_) ?_ ?_
  rotate_left
  · show Act.put _ (some 19) _ = _
    simp only [Act.put, lA, lB, lC, i64_w, i32_w]
    rfl
  refine pure_ (i := 8) (N := some 20) (v := ?_) (a' := ?_) #[bT, bT, bT, bT, bT, bT, bT, bT, bT, bF] rfl rfl (by kernel_rfl) (fun _ _ _ h => h) (Or.inl ⟨by rfl, ?_⟩) ?_ ?_
  rotate_left
  · intro w'
    go_simp
    with_reducible rfl
  rotate_left
  · simp only [Act.put, lA, lB, lC, i64_w, i32_w]
    rfl
  refine pure_ (i := 9) (N := some 21) (v := ?_) (a' := ?_) #[bT, bT, bT, bT, bT, bT, bT, bT, bT, bT] rfl rfl (by kernel_rfl) (fun _ _ _ h => h) (Or.inl ⟨by rfl, ?_⟩) ?_ ?_
  rotate_left
  · intro w'
    go_simp
    with_reducible rfl
  rotate_left
  · simp only [Act.put, lA, lB, lC, i64_w, i32_w]
    rfl
  refine done_ (by kernel_rfl) ?_
  have qp0 := Pp.out.c0
  have qp1 := Pp.out.c1
  have yp := Pp.out.lt
  have el0 := Vl.out.c0
  have el1 := Vl.out.c1
  have el2 := Vl.out.c2
  have el3 := Vl.out.c3
  have eyl := Vl.out.lt
  go_wp2
  clear qp0 qp1 yp
  clear el0 el1 el2 el3 eyl
  obtain ⟨fp, hfp⟩ : ∃ f, storeFree q0.slots = f := ⟨_, rfl⟩
  have HV := Lib.hid HLP.out.out
  have hf8 : 0 ≤ fp ∧ fp ≤ 8 := by
    have h1 := HV.out.free
    have h2 := HV.out.s.len
    have h3 : ∀ s : List Slot, 0 ≤ freeN s ∧ freeN s ≤ s.length := by
      intro s
      induction s with
      | nil => exact ⟨Int.le_refl _, Int.le_refl _⟩
      | cons x xs ih => rw [freeN, List.length_cons]; split <;> omega
    have h3 := h3 q0.slots
    rw [hfp] at h1
    omega
  have HFP := Lib.hid hfp
  have HOKp := Lib.hid (poolOk_iff.2 HV.out)
  have hz : wrap64 (8 - fp) = 8 - fp := by unfold wrap64; omega
  have hgl : decide ((q0.vols.length : Int) ≤ 4) = true := by have := HV.out.v.len; simp; omega
  clear hfp
  have gq0 := gb_cell Pp.out.c0
  have gq1 := gb_cell Pp.out.c1
  have gq2 := gb_cell (show w7.cell? ⟨bkl, 0, none⟩ = some (.slice Al l.base.slots.length al) from Vl.out.c0)
  have gq3 := gb_cell (show w7.cell? ⟨bkl, 1, none⟩ = some (.slice Bl l.base.vols.length bl) from Vl.out.c1)
  have gq4 := gb_cell (show w7.cell? ⟨bkl, 2, none⟩ = some (.slice Cl l.ops.length cl) from Vl.out.c2)
  have gq5 := gb_cell (show w7.cell? ⟨bkl, 3, none⟩ = some (.int .i64 l.safe) from Vl.out.c3)
  refine wp_region_gb (by kernel_rfl) (by kernel_rfl) ?_
  repeat (first | go_big_quiet_skip | (go_big_quiet_want; go_big_quiet_op; first | go_big_quiet_on | (apply Exists.intro; refine ⟨fun _ => ?_, ?_⟩; (first | (go_at_call 58; exact gb_call (implOk_n (Pp.out.bel (GB.h _)).inn HSp.out HOKp.out)) | (go_at_call 59; exact gb_call (free_n (Pp.out.bel (GB.h _)).inn HSp.out HFP.out)) | (go_at_call 60; exact gb_call (lgKinds_n (Pp.out.bel (GB.h _)).inn HV.out HFP.out))); go_big_quiet_on)))
  refine wpQuiet_nil ?_
  rintro w8 ⟨⟨_, hb⟩, rfl⟩
  replace hb : Bel w7 w8 := hb
  clear gq0 gq1 gq2 gq3 gq4 gq5
  replace Vl := Lib.hid (Vl.out.bel hb)
  replace Pp := Lib.hid (Pp.out.bel hb)
  replace KW := Lib.hid (KW.out.tr hb)
  clear hb
  have qp0 := Pp.out.c0
  have qp1 := Pp.out.c1
  have yp := Pp.out.lt
  have el0 := Vl.out.c0
  have el1 := Vl.out.c1
  have el2 := Vl.out.c2
  have el3 := Vl.out.c3
  have eyl := Vl.out.lt
  go_wp2
  all_goals
    go_ret
    exact ⟨rfl, KW.out⟩
end Go.Proofs.YtccllgpaafgjaaaGreat

/- The law FnLogKeep: its body walked. -/
import Derived.Test.YtccllgpaafgjaaaGreatV1
import Derived.Test.YtccllgpaafgjaaaGreatV2
import Derived.Test.YtccllgpaafgjaaaGreatV3
import Derived.Test.YtccllgpaafgjaaaGreatV4
import Derived.Test.YtccllgpaafgjaaaGreatV5
import Derived.Test.YtccllgpaafgjaaaGreatV6
import Derived.Test.YtccllgpaafgjaaaGreatV7
import Derived.Test.YtccllgpaafgjaaaGreatV8
import Derived.Test.YtccllgpaafgjaaaGreatV9
import Derived.Test.YtccllgpaafgjaaaGreatV10
import Derived.Test.YtccllgpaafgjaaaGreatV11
import Derived.Test.YtccllgpaafgjaaaGreatV12
namespace Go.Proofs.YtccllgpaafgjaaaGreat
open Go.RowKit Go.Proofs.YtccllgpaafgjaaaGreatW.PrintWords Go.Proofs.YtccllgpaafgjaaaGreatW.PrintLast
set_option linter.unusedVariables false
set_option linter.unusedSimpArgs false

set_option maxHeartbeats 32000000 in
set_option maxRecDepth 10000 in
theorem lawFnLogKeep_c {w : World} {A : Option Addr} {n c : Nat} {bs : List Int} (h : CodeIn w A n c bs) (hn : n ≤ 9223372036854775807) :
    Calls Tryz.prog 8 #[.slice A n c] w (Ret (.bool true) w) := by
  have H := Lib.hid h
  clear h
  go_enter Tryz.func8, Tryz.ntmps8
  by_cases hlen : (1048576 : Int) < (n : Int)
  · go_wp2
    go_ret
    exact ⟨rfl, Below.refl _ _⟩
  go_wp2_with fail
  refine (drawLogKeep_c H.out hn).mono ?_
  rintro e w1 ⟨Al, Bl, Cl, al, bl, cl, l, rfl, hd, hin, hb⟩
  have HSl := Lib.hid hd.small
  have hll := hd.len
  have Jl := Lib.hid hin
  have KW := Lib.hid hb
  clear hd hin hb
  cases hok : logOk l
  · have HOK := Lib.hid hok
    clear hok
    obtain ⟨x, hx⟩ : ∃ x, keepF l = x := ⟨_, rfl⟩
    have HX := Lib.hid hx
    have HSx := Lib.hid (hx ▸ keepF_small HSl.out : SmallL x)
    clear hx
    go_wp2_with fail
    have hnew := LVar.new Jl.out
    have hb : Bel w1 (w1.alloc (.cells #[.slice Al l.base.slots.length al, .slice Bl l.base.vols.length bl, .slice Cl l.ops.length cl, .int .i64 l.safe] 44)) := bel_alloc (Below.refl _ _) _
    generalize w1.alloc (.cells #[.slice Al l.base.slots.length al, .slice Bl l.base.vols.length bl, .slice Cl l.ops.length cl, .int .i64 l.safe] 44) = W2 at hnew hb ⊢
    replace Jl := Lib.hid (Jl.out.bel hb)
    replace KW := Lib.hid (KW.out.tr hb)
    obtain ⟨bkl, hbn⟩ : ∃ b, w1.heap.size = b := ⟨_, rfl⟩
    rw [hbn] at hnew ⊢
    have Vl := Lib.hid hnew
    clear hnew hb hbn Jl
    refine (implLogKeep_n Vl.out.inn HSl.out HX.out).mono ?_
    rintro e w3 ⟨Ax, Bx, Cx, ax, bx, cx, rfl, hin, hb⟩
    replace Vl := Lib.hid (Vl.out.bel hb)
    replace KW := Lib.hid (KW.out.tr hb)
    have Jx := Lib.hid hin
    clear hin hb
    have el0 := Vl.out.c0
    have el1 := Vl.out.c1
    have el2 := Vl.out.c2
    have el3 := Vl.out.c3
    have eyl := Vl.out.lt
    go_wp2
    clear el0 el1 el2 el3 eyl
    have hnew := LVar.new Jx.out
    have hb : Bel w3 (w3.alloc (.cells #[.slice Ax x.base.slots.length ax, .slice Bx x.base.vols.length bx, .slice Cx x.ops.length cx, .int .i64 x.safe] 44)) := bel_alloc (Below.refl _ _) _
    generalize w3.alloc (.cells #[.slice Ax x.base.slots.length ax, .slice Bx x.base.vols.length bx, .slice Cx x.ops.length cx, .int .i64 x.safe] 44) = W4 at hnew hb ⊢
    replace Vl := Lib.hid (Vl.out.bel hb)
    replace Jx := Lib.hid (Jx.out.bel hb)
    replace KW := Lib.hid (KW.out.tr hb)
    obtain ⟨bkx, hbn⟩ : ∃ b, w3.heap.size = b := ⟨_, rfl⟩
    rw [hbn] at hnew ⊢
    have Vx := Lib.hid hnew
    clear hnew hb hbn Jx
    have hb : Bel W4 W4.drew := (Below.refl _ _).drew
    replace Vl := Lib.hid (Vl.out.bel hb)
    replace Vx := Lib.hid (Vx.out.bel hb)
    replace KW := Lib.hid (KW.out.tr hb)
    clear hb
    refine start_ (n := 10) (S := fun w' => w'.cell? ⟨bkx, 0, none⟩ = some (.slice Ax x.base.slots.length ax) ∧ w'.cell? ⟨bkx, 1, none⟩ = some (.slice Bx x.base.vols.length bx) ∧ w'.cell? ⟨bkx, 2, none⟩ = some (.slice Cx x.ops.length cx) ∧ w'.cell? ⟨bkx, 3, none⟩ = some (.int .i64 x.safe) ∧ w'.cell? ⟨bkl, 0, none⟩ = some (.slice Al l.base.slots.length al) ∧ w'.cell? ⟨bkl, 1, none⟩ = some (.slice Bl l.base.vols.length bl) ∧ w'.cell? ⟨bkl, 2, none⟩ = some (.slice Cl l.ops.length cl) ∧ w'.cell? ⟨bkl, 3, none⟩ = some (.int .i64 l.safe)) (ds := []) #[bF, bF, bF, bF, bF, bF, bF, bF, bF, bF] (by kernel_rfl) rfl rfl ⟨Vx.out.c0, Vx.out.c1, Vx.out.c2, Vx.out.c3, Vl.out.c0, Vl.out.c1, Vl.out.c2, Vl.out.c3⟩ (fun hHeld => ?_)
    refine take_ (i := 0) (N := some 13) (v := ?_) (a' := ?_) #[bT, bF, bF, bF, bF, bF, bF, bF, bF, bF] rfl rfl (by kernel_rfl) (fun _ _ _ h => h) (Or.inl ⟨by rfl, ?_⟩) hHeld ?_ ?_
    rotate_left
    · rintro w' ⟨s0, s1, s2, s3, s4, s5, s6, s7⟩
      go_simp
      with_reducible rfl
    rotate_left
    · simp only [Act.put, lA, lB, lC, i64_w, i32_w]
      rfl
    refine take_ (i := 1) (N := some 14) (v := ?_) (a' := ?_) #[bT, bT, bF, bF, bF, bF, bF, bF, bF, bF] rfl rfl (by kernel_rfl) (fun _ _ _ h => h) (Or.inl ⟨by rfl, ?_⟩) hHeld ?_ ?_
    rotate_left
    · rintro w' ⟨s0, s1, s2, s3, s4, s5, s6, s7⟩
      go_simp
      with_reducible rfl
    rotate_left
    · simp only [Act.put, lA, lB, lC, i64_w, i32_w]
      rfl
    refine one_ (i := 2) (N := some 15) #[bT, bT, bT, bF, bF, bF, bF, bF, bF, bF] rfl rfl (by kernel_rfl) (by decide) (fun K hK => ?_)
    refine goes_ Tryz.func52 (by kernel_rfl) rfl #[.agg #[.slice Al l.base.slots.length al, .slice Bl l.base.vols.length bl, .slice Cl l.ops.length cl, .int .i64 l.safe]] (by rfl) rfl rfl (by simp only [List.map_toArray, List.map_cons, List.map_nil]; rfl) ?_
    with_reducible refine (specLogKeep_n Vl.out.inn HSl.out HX.out).mono ?_
    rintro e w5 ⟨Ay5, By5, Cy5, ay5, by5, cy5, rfl, hin, hb⟩
    replace Vl := Lib.hid (Vl.out.bel hb)
    replace Vx := Lib.hid (Vx.out.bel hb)
    replace KW := Lib.hid (KW.out.tr hb)
    have Jy5 := Lib.hid hin
    clear hin hb
    refine ⟨_, rfl, ?_⟩
    refine hK.out _ _ ⟨Vx.out.c0, Vx.out.c1, Vx.out.c2, Vx.out.c3, Vl.out.c0, Vl.out.c1, Vl.out.c2, Vl.out.c3⟩ (fun hHeld => ?_)
    clear hK K
    refine norm_ (a' := ?_) ?_ ?_
    rotate_left
    · show Act.put _ (some 15) _ = _
      simp only [Act.put, lA, lB, lC, i64_w, i32_w]
      rfl
    refine one_ (i := 3) (N := some 16) #[bT, bT, bT, bT, bF, bF, bF, bF, bF, bF] rfl rfl (by kernel_rfl) (by decide) (fun K hK => ?_)
    refine goes_ Tryz.func32 (by kernel_rfl) rfl #[.agg #[.slice Ax x.base.slots.length ax, .slice Bx x.base.vols.length bx, .slice Cx x.ops.length cx, .int .i64 x.safe], .agg #[.slice Ay5 x.base.slots.length ay5, .slice By5 x.base.vols.length by5, .slice Cy5 x.ops.length cy5, .int .i64 x.safe]] (by rfl) rfl rfl (by simp only [List.map_toArray, List.map_cons, List.map_nil]; rfl) ?_
    with_reducible refine (lgLog_c Vx.out.inn Jy5.out HSx.out).mono ?_
    rintro e w6 ⟨rfl, hb⟩
    replace Vl := Lib.hid (Vl.out.bel hb)
    replace Vx := Lib.hid (Vx.out.bel hb)
    replace Jy5 := Lib.hid (Jy5.out.bel hb)
    replace KW := Lib.hid (KW.out.tr hb)
    clear hb
    refine ⟨_, rfl, ?_⟩
    refine hK.out _ _ ⟨Vx.out.c0, Vx.out.c1, Vx.out.c2, Vx.out.c3, Vl.out.c0, Vl.out.c1, Vl.out.c2, Vl.out.c3⟩ (fun hHeld => ?_)
    clear hK K
    refine norm_ (a' := ?_) ?_ ?_
    rotate_left
    · show Act.put _ (some 16) _ = _
      simp only [Act.put, lA, lB, lC, i64_w, i32_w]
      rfl
    refine pure_ (i := 4) (N := some 17) (v := ?_) (a' := ?_) #[bT, bT, bT, bT, bT, bF, bF, bF, bF, bF] rfl rfl (by kernel_rfl) (fun _ _ _ h => h) (Or.inl ⟨by rfl, ?_⟩) ?_ ?_
    rotate_left
    · intro w'
      go_simp
      with_reducible rfl
    rotate_left
    · simp only [Act.put, lA, lB, lC, i64_w, i32_w]
      rfl
    refine pure_ (i := 5) (N := some 18) (v := ?_) (a' := ?_) #[bT, bT, bT, bT, bT, bT, bF, bF, bF, bF] rfl rfl (by kernel_rfl) (fun _ _ _ h => h) (Or.inl ⟨by rfl, ?_⟩) ?_ ?_
    rotate_left
    · intro w'
      go_simp
      with_reducible rfl
    rotate_left
    · simp only [Act.put, lA, lB, lC, i64_w, i32_w]
      rfl
    refine take_ (i := 6) (N := some 19) (v := ?_) (a' := ?_) #[bT, bT, bT, bT, bT, bT, bT, bF, bF, bF] rfl rfl (by kernel_rfl) (fun _ _ _ h => h) (Or.inl ⟨by rfl, ?_⟩) hHeld ?_ ?_
    rotate_left
    · rintro w' ⟨s0, s1, s2, s3, s4, s5, s6, s7⟩
      go_simp
      with_reducible rfl
    rotate_left
    · simp only [Act.put, lA, lB, lC, i64_w, i32_w]
      rfl
    refine one_ (i := 7) (N := some 20) #[bT, bT, bT, bT, bT, bT, bT, bT, bF, bF] rfl rfl (by kernel_rfl) (by decide) (fun K hK => ?_)
    refine goes_ Tryz.func34 (by kernel_rfl) rfl #[.agg #[.slice Al l.base.slots.length al, .slice Bl l.base.vols.length bl, .slice Cl l.ops.length cl, .int .i64 l.safe]] (by rfl) rfl rfl (by simp only [List.map_toArray, List.map_cons, List.map_nil]; rfl) ?_
    with_reducible refine (specLogOk_n Vl.out.inn HSl.out HOK.out).mono ?_
    rintro e w7 ⟨rfl, hb⟩
    replace Vl := Lib.hid (Vl.out.bel hb)
    replace Vx := Lib.hid (Vx.out.bel hb)
    replace Jy5 := Lib.hid (Jy5.out.bel hb)
    replace KW := Lib.hid (KW.out.tr hb)
    clear hb
    refine ⟨_, rfl, ?_⟩
    refine hK.out _ _ ⟨Vx.out.c0, Vx.out.c1, Vx.out.c2, Vx.out.c3, Vl.out.c0, Vl.out.c1, Vl.out.c2, Vl.out.c3⟩ (fun hHeld => ?_)
    clear hK K
    refine norm_ (a' := ?_) ?_ ?_
    rotate_left
    · show Act.put _ (some 20) _ = _
      simp only [Act.put, lA, lB, lC, i64_w, i32_w]
      rfl
    refine pure_ (i := 8) (N := some 21) (v := ?_) (a' := ?_) #[bT, bT, bT, bT, bT, bT, bT, bT, bT, bF] rfl rfl (by kernel_rfl) (fun _ _ _ h => h) (Or.inl ⟨by rfl, ?_⟩) ?_ ?_
    rotate_left
    · intro w'
      go_simp
      with_reducible rfl
    rotate_left
    · simp only [Act.put, lA, lB, lC, i64_w, i32_w]
      rfl
    refine pure_ (i := 9) (N := some 22) (v := ?_) (a' := ?_) #[bT, bT, bT, bT, bT, bT, bT, bT, bT, bT] rfl rfl (by kernel_rfl) (fun _ _ _ h => h) (Or.inl ⟨by rfl, ?_⟩) ?_ ?_
    rotate_left
    · intro w'
      go_simp
      with_reducible rfl
    rotate_left
    · simp only [Act.put, lA, lB, lC, i64_w, i32_w]
      rfl
    refine done_ (by kernel_rfl) ?_
    have el0 := Vl.out.c0
    have el1 := Vl.out.c1
    have el2 := Vl.out.c2
    have el3 := Vl.out.c3
    have eyl := Vl.out.lt
    have ex0 := Vx.out.c0
    have ex1 := Vx.out.c1
    have ex2 := Vx.out.c2
    have ex3 := Vx.out.c3
    have eyx := Vx.out.lt
    go_wp2
    clear el0 el1 el2 el3 eyl
    clear ex0 ex1 ex2 ex3 eyx
    have hb : Bel w7 w7.drew := (Below.refl _ _).drew
    replace Vl := Lib.hid (Vl.out.bel hb)
    replace Vx := Lib.hid (Vx.out.bel hb)
    replace KW := Lib.hid (KW.out.tr hb)
    clear hb
    refine start_ (n := 5) (S := fun w' => w'.cell? ⟨bkx, 0, none⟩ = some (.slice Ax x.base.slots.length ax) ∧ w'.cell? ⟨bkx, 1, none⟩ = some (.slice Bx x.base.vols.length bx) ∧ w'.cell? ⟨bkx, 2, none⟩ = some (.slice Cx x.ops.length cx) ∧ w'.cell? ⟨bkx, 3, none⟩ = some (.int .i64 x.safe) ∧ w'.cell? ⟨bkl, 0, none⟩ = some (.slice Al l.base.slots.length al) ∧ w'.cell? ⟨bkl, 1, none⟩ = some (.slice Bl l.base.vols.length bl) ∧ w'.cell? ⟨bkl, 2, none⟩ = some (.slice Cl l.ops.length cl) ∧ w'.cell? ⟨bkl, 3, none⟩ = some (.int .i64 l.safe)) (ds := []) #[bF, bF, bF, bF, bF] (by kernel_rfl) rfl rfl ⟨Vx.out.c0, Vx.out.c1, Vx.out.c2, Vx.out.c3, Vl.out.c0, Vl.out.c1, Vl.out.c2, Vl.out.c3⟩ (fun hHeld => ?_)
    refine take_ (i := 0) (N := some 23) (v := ?_) (a' := ?_) #[bT, bF, bF, bF, bF] rfl rfl (by kernel_rfl) (fun _ _ _ h => h) (Or.inl ⟨by rfl, ?_⟩) hHeld ?_ ?_
    rotate_left
    · rintro w' ⟨s0, s1, s2, s3, s4, s5, s6, s7⟩
      go_simp
      with_reducible rfl
    rotate_left
    · simp only [Act.put, lA, lB, lC, i64_w, i32_w]
      rfl
    refine take_ (i := 1) (N := some 24) (v := ?_) (a' := ?_) #[bT, bT, bF, bF, bF] rfl rfl (by kernel_rfl) (fun _ _ _ h => h) (Or.inl ⟨by rfl, ?_⟩) hHeld ?_ ?_
    rotate_left
    · rintro w' ⟨s0, s1, s2, s3, s4, s5, s6, s7⟩
      go_simp
      with_reducible rfl
    rotate_left
    · simp only [Act.put, lA, lB, lC, i64_w, i32_w]
      rfl
    refine one_ (i := 2) (N := some 25) #[bT, bT, bT, bF, bF] rfl rfl (by kernel_rfl) (by decide) (fun K hK => ?_)
    refine goes_ Tryz.func52 (by kernel_rfl) rfl #[.agg #[.slice Al l.base.slots.length al, .slice Bl l.base.vols.length bl, .slice Cl l.ops.length cl, .int .i64 l.safe]] (by rfl) rfl rfl (by simp only [List.map_toArray, List.map_cons, List.map_nil]; rfl) ?_
    with_reducible refine (specLogKeep_n Vl.out.inn HSl.out HX.out).mono ?_
    rintro e w8 ⟨Ay6, By6, Cy6, ay6, by6, cy6, rfl, hin, hb⟩
    replace Vl := Lib.hid (Vl.out.bel hb)
    replace Vx := Lib.hid (Vx.out.bel hb)
    replace KW := Lib.hid (KW.out.tr hb)
    have Jy6 := Lib.hid hin
    clear hin hb
    refine ⟨_, rfl, ?_⟩
    refine hK.out _ _ ⟨Vx.out.c0, Vx.out.c1, Vx.out.c2, Vx.out.c3, Vl.out.c0, Vl.out.c1, Vl.out.c2, Vl.out.c3⟩ (fun hHeld => ?_)
    clear hK K
    refine norm_ (a' := ?_) ?_ ?_
    rotate_left
    · show Act.put _ (some 25) _ = _
      simp only [Act.put, lA, lB, lC, i64_w, i32_w]
      rfl
    refine one_ (i := 3) (N := some 26) #[bT, bT, bT, bT, bF] rfl rfl (by kernel_rfl) (by decide) (fun K hK => ?_)
    refine goes_ Tryz.func32 (by kernel_rfl) rfl #[.agg #[.slice Ax x.base.slots.length ax, .slice Bx x.base.vols.length bx, .slice Cx x.ops.length cx, .int .i64 x.safe], .agg #[.slice Ay6 x.base.slots.length ay6, .slice By6 x.base.vols.length by6, .slice Cy6 x.ops.length cy6, .int .i64 x.safe]] (by rfl) rfl rfl (by simp only [List.map_toArray, List.map_cons, List.map_nil]; rfl) ?_
    with_reducible refine (lgLog_c Vx.out.inn Jy6.out HSx.out).mono ?_
    rintro e w9 ⟨rfl, hb⟩
    replace Vl := Lib.hid (Vl.out.bel hb)
    replace Vx := Lib.hid (Vx.out.bel hb)
    replace Jy6 := Lib.hid (Jy6.out.bel hb)
    replace KW := Lib.hid (KW.out.tr hb)
    clear hb
    refine ⟨_, rfl, ?_⟩
    refine hK.out _ _ ⟨Vx.out.c0, Vx.out.c1, Vx.out.c2, Vx.out.c3, Vl.out.c0, Vl.out.c1, Vl.out.c2, Vl.out.c3⟩ (fun hHeld => ?_)
    clear hK K
    refine norm_ (a' := ?_) ?_ ?_
    rotate_left
    · show Act.put _ (some 26) _ = _
      simp only [Act.put, lA, lB, lC, i64_w, i32_w]
      rfl
    refine pure_ (i := 4) (N := some 2) (v := ?_) (a' := ?_) #[bT, bT, bT, bT, bT] rfl rfl (by kernel_rfl) (fun _ _ _ h => h) (Or.inl ⟨by rfl, ?_⟩) ?_ ?_
    rotate_left
    · intro w'
      go_simp
      with_reducible rfl
    rotate_left
    · simp only [Act.put, lA, lB, lC, i64_w, i32_w]
      rfl
    refine done_ (by kernel_rfl) ?_
    have el0 := Vl.out.c0
    have el1 := Vl.out.c1
    have el2 := Vl.out.c2
    have el3 := Vl.out.c3
    have eyl := Vl.out.lt
    have ex0 := Vx.out.c0
    have ex1 := Vx.out.c1
    have ex2 := Vx.out.c2
    have ex3 := Vx.out.c3
    have eyx := Vx.out.lt
    go_wp2
    all_goals
      go_ret
      exact ⟨rfl, KW.out⟩
  have HOK := Lib.hid hok
  obtain ⟨q0, hlp⟩ := logOk_iff.1 hok
  clear hok
  have HLP := Lib.hid hlp
  have HX := Lib.hid hlp.keepE
  have hlx := hlp.keep
  rw [hlp.keepE] at hlx
  have HLX := Lib.hid hlx
  have HSx := Lib.hid (show SmallL ⟨l.base, l.ops, l.ops.length⟩ from ⟨HSl.out.base, HSl.out.ops⟩)
  have HSq := Lib.hid hlx.out.small
  clear hlp hlx
  go_wp2_with fail
  have hnew := LVar.new Jl.out
  have hb : Bel w1 (w1.alloc (.cells #[.slice Al l.base.slots.length al, .slice Bl l.base.vols.length bl, .slice Cl l.ops.length cl, .int .i64 l.safe] 44)) := bel_alloc (Below.refl _ _) _
  generalize w1.alloc (.cells #[.slice Al l.base.slots.length al, .slice Bl l.base.vols.length bl, .slice Cl l.ops.length cl, .int .i64 l.safe] 44) = W2 at hnew hb ⊢
  replace Jl := Lib.hid (Jl.out.bel hb)
  replace KW := Lib.hid (KW.out.tr hb)
  obtain ⟨bkl, hbn⟩ : ∃ b, w1.heap.size = b := ⟨_, rfl⟩
  rw [hbn] at hnew ⊢
  have Vl := Lib.hid hnew
  clear hnew hb hbn Jl
  refine (implLogKeep_n Vl.out.inn HSl.out HX.out).mono ?_
  rintro e w3 ⟨Ax, Bx, Cx, ax, bx, cx, rfl, hin, hb⟩
  replace Vl := Lib.hid (Vl.out.bel hb)
  replace KW := Lib.hid (KW.out.tr hb)
  have Jx := Lib.hid hin
  clear hin hb
  have el0 := Vl.out.c0
  have el1 := Vl.out.c1
  have el2 := Vl.out.c2
  have el3 := Vl.out.c3
  have eyl := Vl.out.lt
  go_wp2
  clear el0 el1 el2 el3 eyl
  have hnew := LVar.new Jx.out
  have hb : Bel w3 (w3.alloc (.cells #[.slice Ax l.base.slots.length ax, .slice Bx l.base.vols.length bx, .slice Cx l.ops.length cx, .int .i64 (l.ops.length : Int)] 44)) := bel_alloc (Below.refl _ _) _
  generalize w3.alloc (.cells #[.slice Ax l.base.slots.length ax, .slice Bx l.base.vols.length bx, .slice Cx l.ops.length cx, .int .i64 (l.ops.length : Int)] 44) = W4 at hnew hb ⊢
  replace Vl := Lib.hid (Vl.out.bel hb)
  replace Jx := Lib.hid (Jx.out.bel hb)
  replace KW := Lib.hid (KW.out.tr hb)
  obtain ⟨bkx, hbn⟩ : ∃ b, w3.heap.size = b := ⟨_, rfl⟩
  rw [hbn] at hnew ⊢
  have Vx := Lib.hid hnew
  clear hnew hb hbn Jx
  have hb : Bel W4 W4.drew := (Below.refl _ _).drew
  replace Vl := Lib.hid (Vl.out.bel hb)
  replace Vx := Lib.hid (Vx.out.bel hb)
  replace KW := Lib.hid (KW.out.tr hb)
  clear hb
  refine start_ (n := 10) (S := fun w' => w'.cell? ⟨bkx, 0, none⟩ = some (.slice Ax l.base.slots.length ax) ∧ w'.cell? ⟨bkx, 1, none⟩ = some (.slice Bx l.base.vols.length bx) ∧ w'.cell? ⟨bkx, 2, none⟩ = some (.slice Cx l.ops.length cx) ∧ w'.cell? ⟨bkx, 3, none⟩ = some (.int .i64 (l.ops.length : Int)) ∧ w'.cell? ⟨bkl, 0, none⟩ = some (.slice Al l.base.slots.length al) ∧ w'.cell? ⟨bkl, 1, none⟩ = some (.slice Bl l.base.vols.length bl) ∧ w'.cell? ⟨bkl, 2, none⟩ = some (.slice Cl l.ops.length cl) ∧ w'.cell? ⟨bkl, 3, none⟩ = some (.int .i64 l.safe)) (ds := []) #[bF, bF, bF, bF, bF, bF, bF, bF, bF, bF] (by kernel_rfl) rfl rfl ⟨Vx.out.c0, Vx.out.c1, Vx.out.c2, Vx.out.c3, Vl.out.c0, Vl.out.c1, Vl.out.c2, Vl.out.c3⟩ (fun hHeld => ?_)
  refine take_ (i := 0) (N := some 13) (v := ?_) (a' := ?_) #[bT, bF, bF, bF, bF, bF, bF, bF, bF, bF] rfl rfl (by kernel_rfl) (fun _ _ _ h => h) (Or.inl ⟨by rfl, ?_⟩) hHeld ?_ ?_
  rotate_left
  · rintro w' ⟨s0, s1, s2, s3, s4, s5, s6, s7⟩
    go_simp
    with_reducible rfl
  rotate_left
  · simp only [Act.put, lA, lB, lC, i64_w, i32_w]
    rfl
  refine take_ (i := 1) (N := some 14) (v := ?_) (a' := ?_) #[bT, bT, bF, bF, bF, bF, bF, bF, bF, bF] rfl rfl (by kernel_rfl) (fun _ _ _ h => h) (Or.inl ⟨by rfl, ?_⟩) hHeld ?_ ?_
  rotate_left
  · rintro w' ⟨s0, s1, s2, s3, s4, s5, s6, s7⟩
    go_simp
    with_reducible rfl
  rotate_left
  · simp only [Act.put, lA, lB, lC, i64_w, i32_w]
    rfl
  refine one_ (i := 2) (N := some 15) #[bT, bT, bT, bF, bF, bF, bF, bF, bF, bF] rfl rfl (by kernel_rfl) (by decide) (fun K hK => ?_)
  refine goes_ Tryz.func52 (by kernel_rfl) rfl #[.agg #[.slice Al l.base.slots.length al, .slice Bl l.base.vols.length bl, .slice Cl l.ops.length cl, .int .i64 l.safe]] (by rfl) rfl rfl (by simp only [List.map_toArray, List.map_cons, List.map_nil]; rfl) ?_
  with_reducible refine (specLogKeep_n Vl.out.inn HSl.out HX.out).mono ?_
  rintro e w5 ⟨Ay5, By5, Cy5, ay5, by5, cy5, rfl, hin, hb⟩
  replace Vl := Lib.hid (Vl.out.bel hb)
  replace Vx := Lib.hid (Vx.out.bel hb)
  replace KW := Lib.hid (KW.out.tr hb)
  have Jy5 := Lib.hid hin
  clear hin hb
  refine ⟨_, rfl, ?_⟩
  refine hK.out _ _ ⟨Vx.out.c0, Vx.out.c1, Vx.out.c2, Vx.out.c3, Vl.out.c0, Vl.out.c1, Vl.out.c2, Vl.out.c3⟩ (fun hHeld => ?_)
  clear hK K
  refine norm_ (a' := ?_) ?_ ?_
  rotate_left
  · show Act.put _ (some 15) _ = _
    simp only [Act.put, lA, lB, lC, i64_w, i32_w]
    rfl
  refine one_ (i := 3) (N := some 16) #[bT, bT, bT, bT, bF, bF, bF, bF, bF, bF] rfl rfl (by kernel_rfl) (by decide) (fun K hK => ?_)
  refine goes_ Tryz.func32 (by kernel_rfl) rfl #[.agg #[.slice Ax l.base.slots.length ax, .slice Bx l.base.vols.length bx, .slice Cx l.ops.length cx, .int .i64 (l.ops.length : Int)], .agg #[.slice Ay5 l.base.slots.length ay5, .slice By5 l.base.vols.length by5, .slice Cy5 l.ops.length cy5, .int .i64 (l.ops.length : Int)]] (by rfl) rfl rfl (by simp only [List.map_toArray, List.map_cons, List.map_nil]; rfl) ?_
  with_reducible refine (lgLog_c (l := ⟨l.base, l.ops, l.ops.length⟩) Vx.out.inn Jy5.out HSx.out).mono ?_
  rintro e w6 ⟨rfl, hb⟩
  replace Vl := Lib.hid (Vl.out.bel hb)
  replace Vx := Lib.hid (Vx.out.bel hb)
  replace Jy5 := Lib.hid (Jy5.out.bel hb)
  replace KW := Lib.hid (KW.out.tr hb)
  clear hb
  refine ⟨_, rfl, ?_⟩
  refine hK.out _ _ ⟨Vx.out.c0, Vx.out.c1, Vx.out.c2, Vx.out.c3, Vl.out.c0, Vl.out.c1, Vl.out.c2, Vl.out.c3⟩ (fun hHeld => ?_)
  clear hK K
  refine norm_ (a' := ?_) ?_ ?_
  rotate_left
  · show Act.put _ (some 16) _ = _
    simp only [Act.put, lA, lB, lC, i64_w, i32_w]
    rfl
  refine pure_ (i := 4) (N := some 17) (v := ?_) (a' := ?_) #[bT, bT, bT, bT, bT, bF, bF, bF, bF, bF] rfl rfl (by kernel_rfl) (fun _ _ _ h => h) (Or.inl ⟨by rfl, ?_⟩) ?_ ?_
  rotate_left
  · intro w'
    go_simp
    with_reducible rfl
  rotate_left
  · simp only [Act.put, lA, lB, lC, i64_w, i32_w]
    rfl
  refine pure_ (i := 5) (N := some 18) (v := ?_) (a' := ?_) #[bT, bT, bT, bT, bT, bT, bF, bF, bF, bF] rfl rfl (by kernel_rfl) (fun _ _ _ h => h) (Or.inl ⟨by rfl, ?_⟩) ?_ ?_
  rotate_left
  · intro w'
    go_simp
    with_reducible rfl
  rotate_left
  · simp only [Act.put, lA, lB, lC, i64_w, i32_w]
    rfl
  refine take_ (i := 6) (N := some 19) (v := ?_) (a' := ?_) #[bT, bT, bT, bT, bT, bT, bT, bF, bF, bF] rfl rfl (by kernel_rfl) (fun _ _ _ h => h) (Or.inl ⟨by rfl, ?_⟩) hHeld ?_ ?_
  rotate_left
  · rintro w' ⟨s0, s1, s2, s3, s4, s5, s6, s7⟩
    go_simp
    with_reducible rfl
  rotate_left
  · simp only [Act.put, lA, lB, lC, i64_w, i32_w]
    rfl
  refine one_ (i := 7) (N := some 20) #[bT, bT, bT, bT, bT, bT, bT, bT, bF, bF] rfl rfl (by kernel_rfl) (by decide) (fun K hK => ?_)
  refine goes_ Tryz.func34 (by kernel_rfl) rfl #[.agg #[.slice Al l.base.slots.length al, .slice Bl l.base.vols.length bl, .slice Cl l.ops.length cl, .int .i64 l.safe]] (by rfl) rfl rfl (by simp only [List.map_toArray, List.map_cons, List.map_nil]; rfl) ?_
  with_reducible refine (specLogOk_n Vl.out.inn HSl.out HOK.out).mono ?_
  rintro e w7 ⟨rfl, hb⟩
  replace Vl := Lib.hid (Vl.out.bel hb)
  replace Vx := Lib.hid (Vx.out.bel hb)
  replace Jy5 := Lib.hid (Jy5.out.bel hb)
  replace KW := Lib.hid (KW.out.tr hb)
  clear hb
  refine ⟨_, rfl, ?_⟩
  refine hK.out _ _ ⟨Vx.out.c0, Vx.out.c1, Vx.out.c2, Vx.out.c3, Vl.out.c0, Vl.out.c1, Vl.out.c2, Vl.out.c3⟩ (fun hHeld => ?_)
  clear hK K
  refine norm_ (a' := ?_) ?_ ?_
  rotate_left
  · show Act.put _ (some 20) _ = _
    simp only [Act.put, lA, lB, lC, i64_w, i32_w]
    rfl
  refine pure_ (i := 8) (N := some 21) (v := ?_) (a' := ?_) #[bT, bT, bT, bT, bT, bT, bT, bT, bT, bF] rfl rfl (by kernel_rfl) (fun _ _ _ h => h) (Or.inl ⟨by rfl, ?_⟩) ?_ ?_
  rotate_left
  · intro w'
    go_simp
    with_reducible rfl
  rotate_left
  · simp only [Act.put, lA, lB, lC, i64_w, i32_w]
    rfl
  refine pure_ (i := 9) (N := some 22) (v := ?_) (a' := ?_) #[bT, bT, bT, bT, bT, bT, bT, bT, bT, bT] rfl rfl (by kernel_rfl) (fun _ _ _ h => h) (Or.inl ⟨by rfl, ?_⟩) ?_ ?_
  rotate_left
  · intro w'
    go_simp
    with_reducible rfl
  rotate_left
  · simp only [Act.put, lA, lB, lC, i64_w, i32_w]
    rfl
  refine done_ (by kernel_rfl) ?_
  have el0 := Vl.out.c0
  have el1 := Vl.out.c1
  have el2 := Vl.out.c2
  have el3 := Vl.out.c3
  have eyl := Vl.out.lt
  have ex0 : w7.cell? ⟨bkx, 0, none⟩ = some (.slice Ax l.base.slots.length ax) := Vx.out.c0
  have ex1 : w7.cell? ⟨bkx, 1, none⟩ = some (.slice Bx l.base.vols.length bx) := Vx.out.c1
  have ex2 : w7.cell? ⟨bkx, 2, none⟩ = some (.slice Cx l.ops.length cx) := Vx.out.c2
  have ex3 : w7.cell? ⟨bkx, 3, none⟩ = some (.int .i64 (l.ops.length : Int)) := Vx.out.c3
  have eyx := Vx.out.lt
  go_wp2_with fail
  clear el0 el1 el2 el3 eyl
  clear ex0 ex1 ex2 ex3 eyx
  refine (implLogFall_n (left := 0) (l := ⟨l.base, l.ops, l.ops.length⟩) Vx.out.inn HSx.out (keep_fall HLX.out rfl)).mono ?_
  rintro e w8 ⟨Ayy, Byy, Cyy, ayy, byy, cyy, rfl, hin, hb⟩
  replace Vl := Lib.hid (Vl.out.bel hb)
  replace Vx := Lib.hid (Vx.out.bel hb)
  replace KW := Lib.hid (KW.out.tr hb)
  have Jyy := Lib.hid hin
  clear hin hb
  have el0 := Vl.out.c0
  have el1 := Vl.out.c1
  have el2 := Vl.out.c2
  have el3 := Vl.out.c3
  have eyl := Vl.out.lt
  have ex0 : w8.cell? ⟨bkx, 0, none⟩ = some (.slice Ax l.base.slots.length ax) := Vx.out.c0
  have ex1 : w8.cell? ⟨bkx, 1, none⟩ = some (.slice Bx l.base.vols.length bx) := Vx.out.c1
  have ex2 : w8.cell? ⟨bkx, 2, none⟩ = some (.slice Cx l.ops.length cx) := Vx.out.c2
  have ex3 : w8.cell? ⟨bkx, 3, none⟩ = some (.int .i64 (l.ops.length : Int)) := Vx.out.c3
  have eyx := Vx.out.lt
  go_wp2
  clear el0 el1 el2 el3 eyl
  clear ex0 ex1 ex2 ex3 eyx
  have hnew := LVar.new Jyy.out
  have hb : Bel w8 (w8.alloc (.cells #[.slice Ayy l.base.slots.length ayy, .slice Byy l.base.vols.length byy, .slice Cyy l.ops.length cyy, .int .i64 (l.ops.length : Int)] 44)) := bel_alloc (Below.refl _ _) _
  generalize w8.alloc (.cells #[.slice Ayy l.base.slots.length ayy, .slice Byy l.base.vols.length byy, .slice Cyy l.ops.length cyy, .int .i64 (l.ops.length : Int)] 44) = W9 at hnew hb ⊢
  replace Vl := Lib.hid (Vl.out.bel hb)
  replace Vx := Lib.hid (Vx.out.bel hb)
  replace Jyy := Lib.hid (Jyy.out.bel hb)
  replace KW := Lib.hid (KW.out.tr hb)
  obtain ⟨bkyy, hbn⟩ : ∃ b, w8.heap.size = b := ⟨_, rfl⟩
  rw [hbn] at hnew ⊢
  have Vyy := Lib.hid hnew
  clear hnew hb hbn Jyy
  have hb : Bel W9 W9.drew := (Below.refl _ _).drew
  replace Vl := Lib.hid (Vl.out.bel hb)
  replace Vx := Lib.hid (Vx.out.bel hb)
  replace Vyy := Lib.hid (Vyy.out.bel hb)
  replace KW := Lib.hid (KW.out.tr hb)
  clear hb
  refine start_ (n := 26) (S := fun w' => w'.cell? ⟨bkx, 0, none⟩ = some (.slice Ax l.base.slots.length ax) ∧ w'.cell? ⟨bkx, 1, none⟩ = some (.slice Bx l.base.vols.length bx) ∧ w'.cell? ⟨bkx, 2, none⟩ = some (.slice Cx l.ops.length cx) ∧ w'.cell? ⟨bkx, 3, none⟩ = some (.int .i64 (l.ops.length : Int)) ∧ w'.cell? ⟨bkyy, 0, none⟩ = some (.slice Ayy l.base.slots.length ayy) ∧ w'.cell? ⟨bkyy, 1, none⟩ = some (.slice Byy l.base.vols.length byy) ∧ w'.cell? ⟨bkyy, 2, none⟩ = some (.slice Cyy l.ops.length cyy) ∧ w'.cell? ⟨bkyy, 3, none⟩ = some (.int .i64 (l.ops.length : Int)) ∧ w'.cell? ⟨bkl, 0, none⟩ = some (.slice Al l.base.slots.length al) ∧ w'.cell? ⟨bkl, 1, none⟩ = some (.slice Bl l.base.vols.length bl) ∧ w'.cell? ⟨bkl, 2, none⟩ = some (.slice Cl l.ops.length cl) ∧ w'.cell? ⟨bkl, 3, none⟩ = some (.int .i64 l.safe)) (ds := []) #[bF, bF, bF, bF, bF, bF, bF, bF, bF, bF, bF, bF, bF, bF, bF, bF, bF, bF, bF, bF, bF, bF, bF, bF, bF, bF] (by kernel_rfl) rfl rfl ⟨Vx.out.c0, Vx.out.c1, Vx.out.c2, Vx.out.c3, Vyy.out.c0, Vyy.out.c1, Vyy.out.c2, Vyy.out.c3, Vl.out.c0, Vl.out.c1, Vl.out.c2, Vl.out.c3⟩ (fun hHeld => ?_)
  refine take_ (i := 0) (N := some 29) (v := ?_) (a' := ?_) #[bT, bF, bF, bF, bF, bF, bF, bF, bF, bF, bF, bF, bF, bF, bF, bF, bF, bF, bF, bF, bF, bF, bF, bF, bF, bF] rfl rfl (by kernel_rfl) (fun _ _ _ h => h) (Or.inl ⟨by rfl, ?_⟩) hHeld ?_ ?_
  rotate_left
  · rintro w' ⟨s0, s1, s2, s3, s4, s5, s6, s7, s8, s9, s10, s11⟩
    go_simp
    with_reducible rfl
  rotate_left
  · simp only [Act.put, lA, lB, lC, i64_w, i32_w]
    rfl
  refine take_ (i := 1) (N := some 30) (v := ?_) (a' := ?_) #[bT, bT, bF, bF, bF, bF, bF, bF, bF, bF, bF, bF, bF, bF, bF, bF, bF, bF, bF, bF, bF, bF, bF, bF, bF, bF] rfl rfl (by kernel_rfl) (fun _ _ _ h => h) (Or.inl ⟨by rfl, ?_⟩) hHeld ?_ ?_
  rotate_left
  · rintro w' ⟨s0, s1, s2, s3, s4, s5, s6, s7, s8, s9, s10, s11⟩
    go_simp
    with_reducible rfl
  rotate_left
  · simp only [Act.put, lA, lB, lC, i64_w, i32_w]
    rfl
  refine one_ (i := 2) (N := some 31) #[bT, bT, bT, bF, bF, bF, bF, bF, bF, bF, bF, bF, bF, bF, bF, bF, bF, bF, bF, bF, bF, bF, bF, bF, bF, bF] rfl rfl (by kernel_rfl) (by decide) (fun K hK => ?_)
  refine goes_ Tryz.func32 (by kernel_rfl) rfl #[.agg #[.slice Ayy l.base.slots.length ayy, .slice Byy l.base.vols.length byy, .slice Cyy l.ops.length cyy, .int .i64 (l.ops.length : Int)], .agg #[.slice Ax l.base.slots.length ax, .slice Bx l.base.vols.length bx, .slice Cx l.ops.length cx, .int .i64 (l.ops.length : Int)]] (by rfl) rfl rfl (by simp only [List.map_toArray, List.map_cons, List.map_nil]; rfl) ?_
  with_reducible refine (lgLog_c (l := ⟨l.base, l.ops, l.ops.length⟩) Vyy.out.inn Vx.out.inn HSx.out).mono ?_
  rintro e w10 ⟨rfl, hb⟩
  replace Vl := Lib.hid (Vl.out.bel hb)
  replace Vx := Lib.hid (Vx.out.bel hb)
  replace Vyy := Lib.hid (Vyy.out.bel hb)
  replace KW := Lib.hid (KW.out.tr hb)
  clear hb
  refine ⟨_, rfl, ?_⟩
  refine hK.out _ _ ⟨Vx.out.c0, Vx.out.c1, Vx.out.c2, Vx.out.c3, Vyy.out.c0, Vyy.out.c1, Vyy.out.c2, Vyy.out.c3, Vl.out.c0, Vl.out.c1, Vl.out.c2, Vl.out.c3⟩ (fun hHeld => ?_)
  clear hK K
  refine norm_ (a' := ?_) ?_ ?_
  rotate_left
  · show Act.put _ (some 31) _ = _
    simp only [Act.put, lA, lB, lC, i64_w, i32_w]
    rfl
  refine pure_ (i := 3) (N := some 32) (v := ?_) (a' := ?_) #[bT, bT, bT, bT, bF, bF, bF, bF, bF, bF, bF, bF, bF, bF, bF, bF, bF, bF, bF, bF, bF, bF, bF, bF, bF, bF] rfl rfl (by kernel_rfl) (fun _ _ _ h => h) (Or.inl ⟨by rfl, ?_⟩) ?_ ?_
  rotate_left
  · intro w'
    go_simp
    with_reducible rfl
  rotate_left
  · simp only [Act.put, lA, lB, lC, i64_w, i32_w]
    rfl
  refine pure_ (i := 4) (N := some 33) (v := ?_) (a' := ?_) #[bT, bT, bT, bT, bT, bF, bF, bF, bF, bF, bF, bF, bF, bF, bF, bF, bF, bF, bF, bF, bF, bF, bF, bF, bF, bF] rfl rfl (by kernel_rfl) (fun _ _ _ h => h) (Or.inl ⟨by rfl, ?_⟩) ?_ ?_
  rotate_left
  · intro w'
    go_simp
    with_reducible rfl
  rotate_left
  · simp only [Act.put, lA, lB, lC, i64_w, i32_w]
    rfl
  refine pure_ (i := 6) (N := some 35) (v := ?_) (a' := ?_) #[bT, bT, bT, bT, bT, bF, bT, bF, bF, bF, bF, bF, bF, bF, bF, bF, bF, bF, bF, bF, bF, bF, bF, bF, bF, bF] rfl rfl (by kernel_rfl) (fun _ _ _ h => h) (Or.inl ⟨by rfl, ?_⟩) ?_ ?_
  rotate_left
  · intro w'
    go_simp
    with_reducible rfl
  rotate_left
  · simp only [Act.put, lA, lB, lC, i64_w, i32_w]
    rfl
  refine take_ (i := 5) (N := some 34) (v := ?_) (a' := ?_) #[bT, bT, bT, bT, bT, bT, bT, bF, bF, bF, bF, bF, bF, bF, bF, bF, bF, bF, bF, bF, bF, bF, bF, bF, bF, bF] rfl rfl (by kernel_rfl) (fun _ _ _ h => h) (Or.inl ⟨by rfl, ?_⟩) hHeld ?_ ?_
  rotate_left
  · rintro w' ⟨s0, s1, s2, s3, s4, s5, s6, s7, s8, s9, s10, s11⟩
    go_simp
    with_reducible rfl
  rotate_left
  · simp only [Act.put, lA, lB, lC, i64_w, i32_w]
    rfl
  refine take_ (i := 7) (N := some 36) (v := ?_) (a' := ?_) #[bT, bT, bT, bT, bT, bT, bT, bT, bF, bF, bF, bF, bF, bF, bF, bF, bF, bF, bF, bF, bF, bF, bF, bF, bF, bF] rfl rfl (by kernel_rfl) (fun _ _ _ h => h) (Or.inl ⟨by rfl, ?_⟩) hHeld ?_ ?_
  rotate_left
  · rintro w' ⟨s0, s1, s2, s3, s4, s5, s6, s7, s8, s9, s10, s11⟩
    go_simp
    with_reducible rfl
  rotate_left
  · simp only [Act.put, lA, lB, lC, i64_w, i32_w]
    rfl
  refine one_ (i := 8) (N := some 37) #[bT, bT, bT, bT, bT, bT, bT, bT, bT, bF, bF, bF, bF, bF, bF, bF, bF, bF, bF, bF, bF, bF, bF, bF, bF, bF] rfl rfl (by kernel_rfl) (by decide) (fun K hK => ?_)
  refine goes_ Tryz.func27 (by kernel_rfl) rfl #[.slice Cx l.ops.length cx, .slice Cl l.ops.length cl] (by rfl) rfl rfl (by simp only [List.map_toArray, List.map_cons, List.map_nil]; rfl) ?_
  with_reducible refine (lgOps_c (xs := l.ops) Vx.out.inn.o Vl.out.inn.o HSl.out.ops.len).mono ?_
  rintro e w11 ⟨rfl, hb⟩
  replace Vl := Lib.hid (Vl.out.bel hb)
  replace Vx := Lib.hid (Vx.out.bel hb)
  replace Vyy := Lib.hid (Vyy.out.bel hb)
  replace KW := Lib.hid (KW.out.tr hb)
  clear hb
  refine ⟨_, rfl, ?_⟩
  refine hK.out _ _ ⟨Vx.out.c0, Vx.out.c1, Vx.out.c2, Vx.out.c3, Vyy.out.c0, Vyy.out.c1, Vyy.out.c2, Vyy.out.c3, Vl.out.c0, Vl.out.c1, Vl.out.c2, Vl.out.c3⟩ (fun hHeld => ?_)
  clear hK K
  refine norm_ (a' := ?_) ?_ ?_
  rotate_left
  · show Act.put _ (some 37) _ = _
    simp only [Act.put, lA, lB, lC, i64_w, i32_w]
    rfl
  refine pure_ (i := 9) (N := some 38) (v := ?_) (a' := ?_) #[bT, bT, bT, bT, bT, bT, bT, bT, bT, bT, bF, bF, bF, bF, bF, bF, bF, bF, bF, bF, bF, bF, bF, bF, bF, bF] rfl rfl (by kernel_rfl) (fun _ _ _ h => h) (Or.inl ⟨by rfl, ?_⟩) ?_ ?_
  rotate_left
  · intro w'
    go_simp
    with_reducible rfl
  rotate_left
  · simp only [Act.put, lA, lB, lC, i64_w, i32_w]
    rfl
  refine pure_ (i := 10) (N := some 39) (v := ?_) (a' := ?_) #[bT, bT, bT, bT, bT, bT, bT, bT, bT, bT, bT, bF, bF, bF, bF, bF, bF, bF, bF, bF, bF, bF, bF, bF, bF, bF] rfl rfl (by kernel_rfl) (fun _ _ _ h => h) (Or.inl ⟨by rfl, ?_⟩) ?_ ?_
  rotate_left
  · intro w'
    go_simp
    with_reducible rfl
  rotate_left
  · simp only [Act.put, lA, lB, lC, i64_w, i32_w]
    rfl
  refine take_ (i := 11) (N := some 40) (v := ?_) (a' := ?_) #[bT, bT, bT, bT, bT, bT, bT, bT, bT, bT, bT, bT, bF, bF, bF, bF, bF, bF, bF, bF, bF, bF, bF, bF, bF, bF] rfl rfl (by kernel_rfl) (fun _ _ _ h => h) (Or.inl ⟨by rfl, ?_⟩) hHeld ?_ ?_
  rotate_left
  · rintro w' ⟨s0, s1, s2, s3, s4, s5, s6, s7, s8, s9, s10, s11⟩
    go_simp
    with_reducible rfl
  rotate_left
  · simp only [Act.put, lA, lB, lC, i64_w, i32_w]
    rfl
  refine take_ (i := 13) (N := some 42) (v := ?_) (a' := ?_) #[bT, bT, bT, bT, bT, bT, bT, bT, bT, bT, bT, bT, bF, bT, bF, bF, bF, bF, bF, bF, bF, bF, bF, bF, bF, bF] rfl rfl (by kernel_rfl) (fun _ _ _ h => h) (Or.inl ⟨by rfl, ?_⟩) hHeld ?_ ?_
  rotate_left
  · rintro w' ⟨s0, s1, s2, s3, s4, s5, s6, s7, s8, s9, s10, s11⟩
    go_simp
    with_reducible rfl
  rotate_left
  · simp only [Act.put, lA, lB, lC, i64_w, i32_w]
    rfl
  refine one_ (i := 12) (N := some 41) #[bT, bT, bT, bT, bT, bT, bT, bT, bT, bT, bT, bT, bT, bT, bF, bF, bF, bF, bF, bF, bF, bF, bF, bF, bF, bF] rfl rfl (by kernel_rfl) (by decide) (fun K hK => ?_)
  refine goes_ Tryz.func36 (by kernel_rfl) rfl #[.agg #[.slice Ayy l.base.slots.length ayy, .slice Byy l.base.vols.length byy, .slice Cyy l.ops.length cyy, .int .i64 (l.ops.length : Int)]] (by rfl) rfl rfl (by simp only [List.map_toArray, List.map_cons, List.map_nil]; rfl) ?_
  with_reducible refine (implLogPool_n (l := ⟨l.base, l.ops, l.ops.length⟩) Vyy.out.inn HSx.out HLX.out.poolE).mono ?_
  rintro e w12 ⟨Au, Bu, cu, du, rfl, hin, hb⟩
  replace Vl := Lib.hid (Vl.out.bel hb)
  replace Vx := Lib.hid (Vx.out.bel hb)
  replace Vyy := Lib.hid (Vyy.out.bel hb)
  replace KW := Lib.hid (KW.out.tr hb)
  have Iu := Lib.hid hin
  clear hin hb
  refine ⟨_, rfl, ?_⟩
  refine hK.out _ _ ⟨Vx.out.c0, Vx.out.c1, Vx.out.c2, Vx.out.c3, Vyy.out.c0, Vyy.out.c1, Vyy.out.c2, Vyy.out.c3, Vl.out.c0, Vl.out.c1, Vl.out.c2, Vl.out.c3⟩ (fun hHeld => ?_)
  clear hK K
  refine norm_ (a' := ?_) ?_ ?_
  rotate_left
  · show Act.put _ (some 41) _ = _
    simp only [Act.put, lA, lB, lC, i64_w, i32_w]
    rfl
  refine one_ (i := 14) (N := some 43) #[bT, bT, bT, bT, bT, bT, bT, bT, bT, bT, bT, bT, bT, bT, bT, bF, bF, bF, bF, bF, bF, bF, bF, bF, bF, bF] rfl rfl (by kernel_rfl) (by decide) (fun K hK => ?_)
  refine goes_ Tryz.func36 (by kernel_rfl) rfl #[.agg #[.slice Al l.base.slots.length al, .slice Bl l.base.vols.length bl, .slice Cl l.ops.length cl, .int .i64 l.safe]] (by rfl) rfl rfl (by simp only [List.map_toArray, List.map_cons, List.map_nil]; rfl) ?_
  with_reducible refine (implLogPool_n Vl.out.inn HSl.out HLP.out.poolE).mono ?_
  rintro e w13 ⟨Av, Bv, cv, dv, rfl, hin, hb⟩
  replace Vl := Lib.hid (Vl.out.bel hb)
  replace Vx := Lib.hid (Vx.out.bel hb)
  replace Vyy := Lib.hid (Vyy.out.bel hb)
  replace Iu := Lib.hid (Iu.out.bel hb)
  replace KW := Lib.hid (KW.out.tr hb)
  have Iv := Lib.hid hin
  clear hin hb
  refine ⟨_, rfl, ?_⟩
  refine hK.out _ _ ⟨Vx.out.c0, Vx.out.c1, Vx.out.c2, Vx.out.c3, Vyy.out.c0, Vyy.out.c1, Vyy.out.c2, Vyy.out.c3, Vl.out.c0, Vl.out.c1, Vl.out.c2, Vl.out.c3⟩ (fun hHeld => ?_)
  clear hK K
  refine norm_ (a' := ?_) ?_ ?_
  rotate_left
  · show Act.put _ (some 43) _ = _
    simp only [Act.put, lA, lB, lC, i64_w, i32_w]
    rfl
  refine one_ (i := 15) (N := some 44) #[bT, bT, bT, bT, bT, bT, bT, bT, bT, bT, bT, bT, bT, bT, bT, bT, bF, bF, bF, bF, bF, bF, bF, bF, bF, bF] rfl rfl (by kernel_rfl) (by decide) (fun K hK => ?_)
  refine goes_ Tryz.func35 (by kernel_rfl) rfl #[.agg #[.slice Au q0.slots.length cu, .slice Bu q0.vols.length du], .agg #[.slice Av q0.slots.length cv, .slice Bv q0.vols.length dv]] (by rfl) rfl rfl (by simp only [List.map_toArray, List.map_cons, List.map_nil]; rfl) ?_
  with_reducible refine (lgPool_c Iu.out Iv.out HSq.out).mono ?_
  rintro e w14 ⟨rfl, hb⟩
  replace Vl := Lib.hid (Vl.out.bel hb)
  replace Vx := Lib.hid (Vx.out.bel hb)
  replace Vyy := Lib.hid (Vyy.out.bel hb)
  replace Iu := Lib.hid (Iu.out.bel hb)
  replace Iv := Lib.hid (Iv.out.bel hb)
  replace KW := Lib.hid (KW.out.tr hb)
  clear hb
  refine ⟨_, rfl, ?_⟩
  refine hK.out _ _ ⟨Vx.out.c0, Vx.out.c1, Vx.out.c2, Vx.out.c3, Vyy.out.c0, Vyy.out.c1, Vyy.out.c2, Vyy.out.c3, Vl.out.c0, Vl.out.c1, Vl.out.c2, Vl.out.c3⟩ (fun hHeld => ?_)
  clear hK K
  refine norm_ (a' := ?_) ?_ ?_
  rotate_left
  · show Act.put _ (some 44) _ = _
    simp only [Act.put, lA, lB, lC, i64_w, i32_w]
    rfl
  refine pure_ (i := 16) (N := some 45) (v := ?_) (a' := ?_) #[bT, bT, bT, bT, bT, bT, bT, bT, bT, bT, bT, bT, bT, bT, bT, bT, bT, bF, bF, bF, bF, bF, bF, bF, bF, bF] rfl rfl (by kernel_rfl) (fun _ _ _ h => h) (Or.inl ⟨by rfl, ?_⟩) ?_ ?_
  rotate_left
  · intro w'
    go_simp
    with_reducible rfl
  rotate_left
  · simp only [Act.put, lA, lB, lC, i64_w, i32_w]
    rfl
  refine pure_ (i := 17) (N := some 46) (v := ?_) (a' := ?_) #[bT, bT, bT, bT, bT, bT, bT, bT, bT, bT, bT, bT, bT, bT, bT, bT, bT, bT, bF, bF, bF, bF, bF, bF, bF, bF] rfl rfl (by kernel_rfl) (fun _ _ _ h => h) (Or.inl ⟨by rfl, ?_⟩) ?_ ?_
  rotate_left
  · intro w'
    go_simp
    with_reducible rfl
  rotate_left
  · simp only [Act.put, lA, lB, lC, i64_w, i32_w]
    rfl
  refine pure_ (i := 18) (N := some 47) (v := ?_) (a' := ?_) #[bT, bT, bT, bT, bT, bT, bT, bT, bT, bT, bT, bT, bT, bT, bT, bT, bT, bT, bT, bF, bF, bF, bF, bF, bF, bF] rfl rfl (by kernel_rfl) (fun _ _ _ h => h) (Or.inl ⟨by rfl, ?_⟩) ?_ ?_
  rotate_left
  · intro w'
    go_simp
    with_reducible rfl
  rotate_left
  · simp only [Act.put, lA, lB, lC, i64_w, i32_w]
    rfl
  refine pure_ (i := 20) (N := some 49) (v := ?_) (a' := ?_) #[bT, bT, bT, bT, bT, bT, bT, bT, bT, bT, bT, bT, bT, bT, bT, bT, bT, bT, bT, bF, bT, bF, bF, bF, bF, bF] rfl rfl (by kernel_rfl) (fun _ _ _ h => h) (Or.inl ⟨by rfl, ?_⟩) ?_ ?_
  rotate_left
  · intro w'
    go_simp
    with_reducible rfl
  rotate_left
  · simp only [Act.put, lA, lB, lC, i64_w, i32_w]
    rfl
  refine take_ (i := 19) (N := some 48) (v := ?_) (a' := ?_) #[bT, bT, bT, bT, bT, bT, bT, bT, bT, bT, bT, bT, bT, bT, bT, bT, bT, bT, bT, bT, bT, bF, bF, bF, bF, bF] rfl rfl (by kernel_rfl) (fun _ _ _ h => h) (Or.inl ⟨by rfl, ?_⟩) hHeld ?_ ?_
  rotate_left
  · rintro w' ⟨s0, s1, s2, s3, s4, s5, s6, s7, s8, s9, s10, s11⟩
    go_simp
    with_reducible rfl
  rotate_left
  · simp only [Act.put, lA, lB, lC, i64_w, i32_w]
    rfl
  refine take_ (i := 21) (N := some 50) (v := ?_) (a' := ?_) #[bT, bT, bT, bT, bT, bT, bT, bT, bT, bT, bT, bT, bT, bT, bT, bT, bT, bT, bT, bT, bT, bT, bF, bF, bF, bF] rfl rfl (by kernel_rfl) (fun _ _ _ h => h) (Or.inl ⟨by rfl, ?_⟩) hHeld ?_ ?_
  rotate_left
  · rintro w' ⟨s0, s1, s2, s3, s4, s5, s6, s7, s8, s9, s10, s11⟩
    go_simp
    with_reducible rfl
  rotate_left
  · simp only [Act.put, lA, lB, lC, i64_w, i32_w]
    rfl
  refine pure_ (i := 22) (N := some 51) (v := ?_) (a' := ?_) #[bT, bT, bT, bT, bT, bT, bT, bT, bT, bT, bT, bT, bT, bT, bT, bT, bT, bT, bT, bT, bT, bT, bT, bF, bF, bF] rfl rfl (by kernel_rfl) (fun _ _ _ h => h) (Or.inl ⟨by rfl, ?_⟩) ?_ ?_
  rotate_left
  · intro w'
    go_simp
    with_reducible rfl
  rotate_left
  · simp only [Act.put, lA, lB, lC, i64_w, i32_w]
    rfl
  refine pure_ (i := 23) (N := some 52) (v := ?_) (a' := ?_) #[bT, bT, bT, bT, bT, bT, bT, bT, bT, bT, bT, bT, bT, bT, bT, bT, bT, bT, bT, bT, bT, bT, bT, bT, bF, bF] rfl rfl (by kernel_rfl) (fun _ _ _ h => h) (Or.inl ⟨by rfl, ?_⟩) ?_ ?_
  rotate_left
  · intro w'
    go_simp
    with_reducible rfl
  rotate_left
  · simp only [Act.put, lA, lB, lC, i64_w, i32_w]
    rfl
  refine pure_ (i := 24) (N := some 53) (v := ?_) (a' := ?_) #[bT, bT, bT, bT, bT, bT, bT, bT, bT, bT, bT, bT, bT, bT, bT, bT, bT, bT, bT, bT, bT, bT, bT, bT, bT, bF] rfl rfl (by kernel_rfl) (fun _ _ _ h => h) (Or.inl ⟨by rfl, ?_⟩) ?_ ?_
  rotate_left
  · intro w'
    go_simp
    with_reducible rfl
  rotate_left
  · simp only [Act.put, lA, lB, lC, i64_w, i32_w]
    rfl
  refine pure_ (i := 25) (N := some 2) (v := ?_) (a' := ?_) #[bT, bT, bT, bT, bT, bT, bT, bT, bT, bT, bT, bT, bT, bT, bT, bT, bT, bT, bT, bT, bT, bT, bT, bT, bT, bT] rfl rfl (by kernel_rfl) (fun _ _ _ h => h) (Or.inl ⟨by rfl, ?_⟩) ?_ ?_
  rotate_left
  · intro w'
    go_simp
    with_reducible rfl
  rotate_left
  · simp only [Act.put, lA, lB, lC, i64_w, i32_w]
    rfl
  refine done_ (by kernel_rfl) ?_
  have el0 := Vl.out.c0
  have el1 := Vl.out.c1
  have el2 := Vl.out.c2
  have el3 := Vl.out.c3
  have eyl := Vl.out.lt
  have ex0 : w14.cell? ⟨bkx, 0, none⟩ = some (.slice Ax l.base.slots.length ax) := Vx.out.c0
  have ex1 : w14.cell? ⟨bkx, 1, none⟩ = some (.slice Bx l.base.vols.length bx) := Vx.out.c1
  have ex2 : w14.cell? ⟨bkx, 2, none⟩ = some (.slice Cx l.ops.length cx) := Vx.out.c2
  have ex3 : w14.cell? ⟨bkx, 3, none⟩ = some (.int .i64 (l.ops.length : Int)) := Vx.out.c3
  have eyx := Vx.out.lt
  have eyy0 : w14.cell? ⟨bkyy, 0, none⟩ = some (.slice Ayy l.base.slots.length ayy) := Vyy.out.c0
  have eyy1 : w14.cell? ⟨bkyy, 1, none⟩ = some (.slice Byy l.base.vols.length byy) := Vyy.out.c1
  have eyy2 : w14.cell? ⟨bkyy, 2, none⟩ = some (.slice Cyy l.ops.length cyy) := Vyy.out.c2
  have eyy3 : w14.cell? ⟨bkyy, 3, none⟩ = some (.int .i64 (l.ops.length : Int)) := Vyy.out.c3
  have eyyy := Vyy.out.lt
  go_wp2
  all_goals
    go_ret
    exact ⟨rfl, KW.out⟩
end Go.Proofs.YtccllgpaafgjaaaGreat

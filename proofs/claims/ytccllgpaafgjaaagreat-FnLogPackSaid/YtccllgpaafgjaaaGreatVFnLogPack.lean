/- The law FnLogPack: its body walked. -/
import Derived.Test.YtccllgpaafgjaaaGreatV1
import Derived.Test.YtccllgpaafgjaaaGreatV2
import Derived.Test.YtccllgpaafgjaaaGreatV3
import Derived.Test.YtccllgpaafgjaaaGreatV4
import Derived.Test.YtccllgpaafgjaaaGreatV5
import Derived.Test.YtccllgpaafgjaaaGreatV6
import Derived.Test.YtccllgpaafgjaaaGreatV7
import Derived.Test.YtccllgpaafgjaaaGreatV8
import Derived.Test.YtccllgpaafgjaaaGreatV9
import Derived.Test.YtccllgpaafgjaaaGreatV10
import Derived.Test.YtccllgpaafgjaaaGreatV11
import Derived.Test.YtccllgpaafgjaaaGreatV12
namespace Go.Proofs.YtccllgpaafgjaaaGreat
open Go.RowKit Go.Proofs.YtccllgpaafgjaaaGreatW.PrintWords Go.Proofs.YtccllgpaafgjaaaGreatW.PrintLast
set_option linter.unusedVariables false
set_option linter.unusedSimpArgs false

set_option maxHeartbeats 32000000 in
set_option maxRecDepth 10000 in
theorem lawFnLogPack_c {w : World} {A : Option Addr} {n c : Nat} {bs : List Int} (h : CodeIn w A n c bs) (hn : n ≤ 9223372036854775807) :
    Calls Tryz.prog 6 #[.slice A n c] w (Ret (.bool true) w) := by
  have H := Lib.hid h
  clear h
  go_enter Tryz.func6, Tryz.ntmps6
  by_cases hlen : (1048576 : Int) < (n : Int)
  · go_wp2
    go_ret
    exact ⟨rfl, Below.refl _ _⟩
  go_wp2_with fail
  refine (drawLogPack_c H.out hn).mono ?_
  rintro e w1 ⟨Al, Bl, Cl, al, bl, cl, l, rfl, hd, hin, hb⟩
  have HSl := Lib.hid hd.small
  have hll := hd.len
  have Jl := Lib.hid hin
  have KW := Lib.hid hb
  clear hd hin hb
  cases hok : logOk l
  · have HOK := Lib.hid hok
    clear hok
    obtain ⟨x, hx⟩ : ∃ x, packF l = x := ⟨_, rfl⟩
    have HX := Lib.hid hx
    have HSx := Lib.hid (hx ▸ packF_small HSl.out : SmallL x)
    clear hx
    go_wp2_with fail
    have hnew := LVar.new Jl.out
    have hb : Bel w1 (w1.alloc (.cells #[.slice Al l.base.slots.length al, .slice Bl l.base.vols.length bl, .slice Cl l.ops.length cl, .int .i64 l.safe] 44)) := bel_alloc (Below.refl _ _) _
    generalize w1.alloc (.cells #[.slice Al l.base.slots.length al, .slice Bl l.base.vols.length bl, .slice Cl l.ops.length cl, .int .i64 l.safe] 44) = W2 at hnew hb ⊢
    replace Jl := Lib.hid (Jl.out.bel hb)
    replace KW := Lib.hid (KW.out.tr hb)
    obtain ⟨bkl, hbn⟩ : ∃ b, w1.heap.size = b := ⟨_, rfl⟩
    rw [hbn] at hnew ⊢
    have Vl := Lib.hid hnew
    clear hnew hb hbn Jl
    refine (implLogPack_n Vl.out.inn HSl.out HX.out).mono ?_
    rintro e w3 ⟨Ax, Bx, Cx, ax, bx, cx, rfl, hin, hb⟩
    replace Vl := Lib.hid (Vl.out.bel hb)
    replace KW := Lib.hid (KW.out.tr hb)
    have Jx := Lib.hid hin
    clear hin hb
    have el0 := Vl.out.c0
    have el1 := Vl.out.c1
    have el2 := Vl.out.c2
    have el3 := Vl.out.c3
    have eyl := Vl.out.lt
    go_wp2
    clear el0 el1 el2 el3 eyl
    have hnew := LVar.new Jx.out
    have hb : Bel w3 (w3.alloc (.cells #[.slice Ax x.base.slots.length ax, .slice Bx x.base.vols.length bx, .slice Cx x.ops.length cx, .int .i64 x.safe] 44)) := bel_alloc (Below.refl _ _) _
    generalize w3.alloc (.cells #[.slice Ax x.base.slots.length ax, .slice Bx x.base.vols.length bx, .slice Cx x.ops.length cx, .int .i64 x.safe] 44) = W4 at hnew hb ⊢
    replace Vl := Lib.hid (Vl.out.bel hb)
    replace Jx := Lib.hid (Jx.out.bel hb)
    replace KW := Lib.hid (KW.out.tr hb)
    obtain ⟨bkx, hbn⟩ : ∃ b, w3.heap.size = b := ⟨_, rfl⟩
    rw [hbn] at hnew ⊢
    have Vx := Lib.hid hnew
    clear hnew hb hbn Jx
    have hb : Bel W4 W4.drew := (Below.refl _ _).drew
    replace Vl := Lib.hid (Vl.out.bel hb)
    replace Vx := Lib.hid (Vx.out.bel hb)
    replace KW := Lib.hid (KW.out.tr hb)
    clear hb
    refine start_ (n := 10) (S := fun w' => w'.cell? ⟨bkx, 0, none⟩ = some (.slice Ax x.base.slots.length ax) ∧ w'.cell? ⟨bkx, 1, none⟩ = some (.slice Bx x.base.vols.length bx) ∧ w'.cell? ⟨bkx, 2, none⟩ = some (.slice Cx x.ops.length cx) ∧ w'.cell? ⟨bkx, 3, none⟩ = some (.int .i64 x.safe) ∧ w'.cell? ⟨bkl, 0, none⟩ = some (.slice Al l.base.slots.length al) ∧ w'.cell? ⟨bkl, 1, none⟩ = some (.slice Bl l.base.vols.length bl) ∧ w'.cell? ⟨bkl, 2, none⟩ = some (.slice Cl l.ops.length cl) ∧ w'.cell? ⟨bkl, 3, none⟩ = some (.int .i64 l.safe)) (ds := []) #[bF, bF, bF, bF, bF, bF, bF, bF, bF, bF] (by kernel_rfl) rfl rfl ⟨Vx.out.c0, Vx.out.c1, Vx.out.c2, Vx.out.c3, Vl.out.c0, Vl.out.c1, Vl.out.c2, Vl.out.c3⟩ (fun hHeld => ?_)
    refine take_ (i := 0) (N := some 12) (v := ?_) (a' := ?_) #[bT, bF, bF, bF, bF, bF, bF, bF, bF, bF] rfl rfl (by kernel_rfl) (fun _ _ _ h => h) (Or.inl ⟨by rfl, ?_⟩) hHeld ?_ ?_
    rotate_left
    · rintro w' ⟨s0, s1, s2, s3, s4, s5, s6, s7⟩
      go_simp
      with_reducible rfl
    rotate_left
    · simp only [Act.put, lA, lB, lC, i64_w, i32_w]
      rfl
    refine take_ (i := 1) (N := some 13) (v := ?_) (a' := ?_) #[bT, bT, bF, bF, bF, bF, bF, bF, bF, bF] rfl rfl (by kernel_rfl) (fun _ _ _ h => h) (Or.inl ⟨by rfl, ?_⟩) hHeld ?_ ?_
    rotate_left
    · rintro w' ⟨s0, s1, s2, s3, s4, s5, s6, s7⟩
      go_simp
      with_reducible rfl
    rotate_left
    · simp only [Act.put, lA, lB, lC, i64_w, i32_w]
      rfl
    refine one_ (i := 2) (N := some 14) #[bT, bT, bT, bF, bF, bF, bF, bF, bF, bF] rfl rfl (by kernel_rfl) (by decide) (fun K hK => ?_)
    refine goes_ Tryz.func33 (by kernel_rfl) rfl #[.agg #[.slice Al l.base.slots.length al, .slice Bl l.base.vols.length bl, .slice Cl l.ops.length cl, .int .i64 l.safe]] (by rfl) rfl rfl (by simp only [List.map_toArray, List.map_cons, List.map_nil]; rfl) ?_
    with_reducible refine (specLogPack_n Vl.out.inn HSl.out HX.out).mono ?_
    rintro e w5 ⟨Ay5, By5, Cy5, ay5, by5, cy5, rfl, hin, hb⟩
    replace Vl := Lib.hid (Vl.out.bel hb)
    replace Vx := Lib.hid (Vx.out.bel hb)
    replace KW := Lib.hid (KW.out.tr hb)
    have Jy5 := Lib.hid hin
    clear hin hb
    refine ⟨_, rfl, ?_⟩
    refine hK.out _ _ ⟨Vx.out.c0, Vx.out.c1, Vx.out.c2, Vx.out.c3, Vl.out.c0, Vl.out.c1, Vl.out.c2, Vl.out.c3⟩ (fun hHeld => ?_)
    clear hK K
    refine norm_ (a' := ?_) ?_ ?_
    rotate_left
    · show Act.put _ (some 14) _ = _
      simp only [Act.put, lA, lB, lC, i64_w, i32_w]
      rfl
    refine one_ (i := 3) (N := some 15) #[bT, bT, bT, bT, bF, bF, bF, bF, bF, bF] rfl rfl (by kernel_rfl) (by decide) (fun K hK => ?_)
    refine goes_ Tryz.func32 (by kernel_rfl) rfl #[.agg #[.slice Ax x.base.slots.length ax, .slice Bx x.base.vols.length bx, .slice Cx x.ops.length cx, .int .i64 x.safe], .agg #[.slice Ay5 x.base.slots.length ay5, .slice By5 x.base.vols.length by5, .slice Cy5 x.ops.length cy5, .int .i64 x.safe]] (by rfl) rfl rfl (by simp only [List.map_toArray, List.map_cons, List.map_nil]; rfl) ?_
    with_reducible refine (lgLog_c Vx.out.inn Jy5.out HSx.out).mono ?_
    rintro e w6 ⟨rfl, hb⟩
    replace Vl := Lib.hid (Vl.out.bel hb)
    replace Vx := Lib.hid (Vx.out.bel hb)
    replace Jy5 := Lib.hid (Jy5.out.bel hb)
    replace KW := Lib.hid (KW.out.tr hb)
    clear hb
    refine ⟨_, rfl, ?_⟩
    refine hK.out _ _ ⟨Vx.out.c0, Vx.out.c1, Vx.out.c2, Vx.out.c3, Vl.out.c0, Vl.out.c1, Vl.out.c2, Vl.out.c3⟩ (fun hHeld => ?_)
    clear hK K
    refine norm_ (a' := ?_) ?_ ?_
    rotate_left
    · show Act.put _ (some 15) _ = _
      simp only [Act.put, lA, lB, lC, i64_w, i32_w]
      rfl
    refine pure_ (i := 4) (N := some 16) (v := ?_) (a' := ?_) #[bT, bT, bT, bT, bT, bF, bF, bF, bF, bF] rfl rfl (by kernel_rfl) (fun _ _ _ h => h) (Or.inl ⟨by rfl, ?_⟩) ?_ ?_
    rotate_left
    · intro w'
      go_simp
      with_reducible rfl
    rotate_left
    · simp only [Act.put, lA, lB, lC, i64_w, i32_w]
      rfl
    refine pure_ (i := 5) (N := some 17) (v := ?_) (a' := ?_) #[bT, bT, bT, bT, bT, bT, bF, bF, bF, bF] rfl rfl (by kernel_rfl) (fun _ _ _ h => h) (Or.inl ⟨by rfl, ?_⟩) ?_ ?_
    rotate_left
    · intro w'
      go_simp
      with_reducible rfl
    rotate_left
    · simp only [Act.put, lA, lB, lC, i64_w, i32_w]
      rfl
    refine take_ (i := 6) (N := some 18) (v := ?_) (a' := ?_) #[bT, bT, bT, bT, bT, bT, bT, bF, bF, bF] rfl rfl (by kernel_rfl) (fun _ _ _ h => h) (Or.inl ⟨by rfl, ?_⟩) hHeld ?_ ?_
    rotate_left
    · rintro w' ⟨s0, s1, s2, s3, s4, s5, s6, s7⟩
      go_simp
      with_reducible rfl
    rotate_left
    · simp only [Act.put, lA, lB, lC, i64_w, i32_w]
      rfl
    refine one_ (i := 7) (N := some 19) #[bT, bT, bT, bT, bT, bT, bT, bT, bF, bF] rfl rfl (by kernel_rfl) (by decide) (fun K hK => ?_)
    refine goes_ Tryz.func34 (by kernel_rfl) rfl #[.agg #[.slice Al l.base.slots.length al, .slice Bl l.base.vols.length bl, .slice Cl l.ops.length cl, .int .i64 l.safe]] (by rfl) rfl rfl (by simp only [List.map_toArray, List.map_cons, List.map_nil]; rfl) ?_
    with_reducible refine (specLogOk_n Vl.out.inn HSl.out HOK.out).mono ?_
    rintro e w7 ⟨rfl, hb⟩
    replace Vl := Lib.hid (Vl.out.bel hb)
    replace Vx := Lib.hid (Vx.out.bel hb)
    replace Jy5 := Lib.hid (Jy5.out.bel hb)
    replace KW := Lib.hid (KW.out.tr hb)
    clear hb
    refine ⟨_, rfl, ?_⟩
    refine hK.out _ _ ⟨Vx.out.c0, Vx.out.c1, Vx.out.c2, Vx.out.c3, Vl.out.c0, Vl.out.c1, Vl.out.c2, Vl.out.c3⟩ (fun hHeld => ?_)
    clear hK K
    refine norm_ (a' := ?_) ?_ ?_
    rotate_left
    · show Act.put _ (some 19) _ = _
      simp only [Act.put, lA, lB, lC, i64_w, i32_w]
      rfl
    refine pure_ (i := 8) (N := some 20) (v := ?_) (a' := ?_) #[bT, bT, bT, bT, bT, bT, bT, bT, bT, bF] rfl rfl (by kernel_rfl) (fun _ _ _ h => h) (Or.inl ⟨by rfl, ?_⟩) ?_ ?_
    rotate_left
    · intro w'
      go_simp
      with_reducible rfl
    rotate_left
    · simp only [Act.put, lA, lB, lC, i64_w, i32_w]
      rfl
    refine pure_ (i := 9) (N := some 21) (v := ?_) (a' := ?_) #[bT, bT, bT, bT, bT, bT, bT, bT, bT, bT] rfl rfl (by kernel_rfl) (fun _ _ _ h => h) (Or.inl ⟨by rfl, ?_⟩) ?_ ?_
    rotate_left
    · intro w'
      go_simp
      with_reducible rfl
    rotate_left
    · simp only [Act.put, lA, lB, lC, i64_w, i32_w]
      rfl
    refine done_ (by kernel_rfl) ?_
    have el0 := Vl.out.c0
    have el1 := Vl.out.c1
    have el2 := Vl.out.c2
    have el3 := Vl.out.c3
    have eyl := Vl.out.lt
    have ex0 := Vx.out.c0
    have ex1 := Vx.out.c1
    have ex2 := Vx.out.c2
    have ex3 := Vx.out.c3
    have eyx := Vx.out.lt
    go_wp2
    clear el0 el1 el2 el3 eyl
    clear ex0 ex1 ex2 ex3 eyx
    have hb : Bel w7 w7.drew := (Below.refl _ _).drew
    replace Vl := Lib.hid (Vl.out.bel hb)
    replace Vx := Lib.hid (Vx.out.bel hb)
    replace KW := Lib.hid (KW.out.tr hb)
    clear hb
    refine start_ (n := 5) (S := fun w' => w'.cell? ⟨bkx, 0, none⟩ = some (.slice Ax x.base.slots.length ax) ∧ w'.cell? ⟨bkx, 1, none⟩ = some (.slice Bx x.base.vols.length bx) ∧ w'.cell? ⟨bkx, 2, none⟩ = some (.slice Cx x.ops.length cx) ∧ w'.cell? ⟨bkx, 3, none⟩ = some (.int .i64 x.safe) ∧ w'.cell? ⟨bkl, 0, none⟩ = some (.slice Al l.base.slots.length al) ∧ w'.cell? ⟨bkl, 1, none⟩ = some (.slice Bl l.base.vols.length bl) ∧ w'.cell? ⟨bkl, 2, none⟩ = some (.slice Cl l.ops.length cl) ∧ w'.cell? ⟨bkl, 3, none⟩ = some (.int .i64 l.safe)) (ds := []) #[bF, bF, bF, bF, bF] (by kernel_rfl) rfl rfl ⟨Vx.out.c0, Vx.out.c1, Vx.out.c2, Vx.out.c3, Vl.out.c0, Vl.out.c1, Vl.out.c2, Vl.out.c3⟩ (fun hHeld => ?_)
    refine take_ (i := 0) (N := some 22) (v := ?_) (a' := ?_) #[bT, bF, bF, bF, bF] rfl rfl (by kernel_rfl) (fun _ _ _ h => h) (Or.inl ⟨by rfl, ?_⟩) hHeld ?_ ?_
    rotate_left
    · rintro w' ⟨s0, s1, s2, s3, s4, s5, s6, s7⟩
      go_simp
      with_reducible rfl
    rotate_left
    · simp only [Act.put, lA, lB, lC, i64_w, i32_w]
      rfl
    refine take_ (i := 1) (N := some 23) (v := ?_) (a' := ?_) #[bT, bT, bF, bF, bF] rfl rfl (by kernel_rfl) (fun _ _ _ h => h) (Or.inl ⟨by rfl, ?_⟩) hHeld ?_ ?_
    rotate_left
    · rintro w' ⟨s0, s1, s2, s3, s4, s5, s6, s7⟩
      go_simp
      with_reducible rfl
    rotate_left
    · simp only [Act.put, lA, lB, lC, i64_w, i32_w]
      rfl
    refine one_ (i := 2) (N := some 24) #[bT, bT, bT, bF, bF] rfl rfl (by kernel_rfl) (by decide) (fun K hK => ?_)
    refine goes_ Tryz.func33 (by kernel_rfl) rfl #[.agg #[.slice Al l.base.slots.length al, .slice Bl l.base.vols.length bl, .slice Cl l.ops.length cl, .int .i64 l.safe]] (by rfl) rfl rfl (by simp only [List.map_toArray, List.map_cons, List.map_nil]; rfl) ?_
    with_reducible refine (specLogPack_n Vl.out.inn HSl.out HX.out).mono ?_
    rintro e w8 ⟨Ay6, By6, Cy6, ay6, by6, cy6, rfl, hin, hb⟩
    replace Vl := Lib.hid (Vl.out.bel hb)
    replace Vx := Lib.hid (Vx.out.bel hb)
    replace KW := Lib.hid (KW.out.tr hb)
    have Jy6 := Lib.hid hin
    clear hin hb
    refine ⟨_, rfl, ?_⟩
    refine hK.out _ _ ⟨Vx.out.c0, Vx.out.c1, Vx.out.c2, Vx.out.c3, Vl.out.c0, Vl.out.c1, Vl.out.c2, Vl.out.c3⟩ (fun hHeld => ?_)
    clear hK K
    refine norm_ (a' := ?_) ?_ ?_
    rotate_left
    · show Act.put _ (some 24) _ = _
      simp only [Act.put, lA, lB, lC, i64_w, i32_w]
      rfl
    refine one_ (i := 3) (N := some 25) #[bT, bT, bT, bT, bF] rfl rfl (by kernel_rfl) (by decide) (fun K hK => ?_)
    refine goes_ Tryz.func32 (by kernel_rfl) rfl #[.agg #[.slice Ax x.base.slots.length ax, .slice Bx x.base.vols.length bx, .slice Cx x.ops.length cx, .int .i64 x.safe], .agg #[.slice Ay6 x.base.slots.length ay6, .slice By6 x.base.vols.length by6, .slice Cy6 x.ops.length cy6, .int .i64 x.safe]] (by rfl) rfl rfl (by simp only [List.map_toArray, List.map_cons, List.map_nil]; rfl) ?_
    with_reducible refine (lgLog_c Vx.out.inn Jy6.out HSx.out).mono ?_
    rintro e w9 ⟨rfl, hb⟩
    replace Vl := Lib.hid (Vl.out.bel hb)
    replace Vx := Lib.hid (Vx.out.bel hb)
    replace Jy6 := Lib.hid (Jy6.out.bel hb)
    replace KW := Lib.hid (KW.out.tr hb)
    clear hb
    refine ⟨_, rfl, ?_⟩
    refine hK.out _ _ ⟨Vx.out.c0, Vx.out.c1, Vx.out.c2, Vx.out.c3, Vl.out.c0, Vl.out.c1, Vl.out.c2, Vl.out.c3⟩ (fun hHeld => ?_)
    clear hK K
    refine norm_ (a' := ?_) ?_ ?_
    rotate_left
    · show Act.put _ (some 25) _ = _
      simp only [Act.put, lA, lB, lC, i64_w, i32_w]
      rfl
    refine pure_ (i := 4) (N := some 2) (v := ?_) (a' := ?_) #[bT, bT, bT, bT, bT] rfl rfl (by kernel_rfl) (fun _ _ _ h => h) (Or.inl ⟨by rfl, ?_⟩) ?_ ?_
    rotate_left
    · intro w'
      go_simp
      with_reducible rfl
    rotate_left
    · simp only [Act.put, lA, lB, lC, i64_w, i32_w]
      rfl
    refine done_ (by kernel_rfl) ?_
    have el0 := Vl.out.c0
    have el1 := Vl.out.c1
    have el2 := Vl.out.c2
    have el3 := Vl.out.c3
    have eyl := Vl.out.lt
    have ex0 := Vx.out.c0
    have ex1 := Vx.out.c1
    have ex2 := Vx.out.c2
    have ex3 := Vx.out.c3
    have eyx := Vx.out.lt
    go_wp2
    all_goals
      go_ret
      exact ⟨rfl, KW.out⟩
  have HOK := Lib.hid hok
  obtain ⟨q0, hlp⟩ := logOk_iff.1 hok
  clear hok
  obtain ⟨pb, os, sf⟩ := l
  obtain ⟨sn, rfl⟩ : ∃ sn : Nat, sf = sn := ⟨sf.toNat, by have := hlp.s0; simp only at this; omega⟩
  obtain ⟨r, hx, hlx, _⟩ := hlp.packE
  have hkl : sn ≤ os.length := by have := hlp.s1; simpa using this
  obtain ⟨dk, hdk⟩ : ∃ dk, os.drop sn = dk := ⟨_, rfl⟩
  obtain ⟨D, dc, hraw, hdc, _⟩ := Jl.out.dropTo (k := sn) hkl hdk
  have hcl2 : os.length ≤ cl := Jl.out.oc
  have hcl : sn ≤ cl := Nat.le_trans hkl hcl2
  have hx : packF ⟨pb, os, sn⟩ = ⟨r, dk, 0⟩ := by rw [hx]; show (⟨r, os.drop sn, 0⟩ : Log) = _; rw [hdk]
  have hlx : LogP ⟨r, dk, 0⟩ q0 := by rw [← hdk]; exact hlx
  have HSx := Lib.hid (show SmallL ⟨r, dk, 0⟩ from ⟨hlx.base.small, hdk ▸ HSl.out.ops.drop sn⟩)
  have HSq := Lib.hid hlx.out.small
  have HLP := Lib.hid hlp
  have HX := Lib.hid hx
  have HLX := Lib.hid hlx
  have HDK := Lib.hid hdk
  have HRAW := Lib.hid hraw
  dsimp only at hraw
  have HLO := Lib.hid (fun (W : World) {Cx : Option Addr} {cx : Nat} (h1 : kOp.C W Cx dk.length dk) (h2 : kOp.C W D dk.length dk) => (by rw [hraw]; exact lgOps_c h1 h2 HSx.out.ops.len : Calls Tryz.prog 27 #[.slice Cx dk.length cx, .slice (if cl = sn then Cl else Option.map (fun x => x.add (sn * 5)) Cl) (os.length - sn) (cl - sn)] W (Ret (.bool true) W)))
  clear hlp hx hlx hdk hraw hdc
  go_wp2_with fail
  have hnew := LVar.new Jl.out
  have hb : Bel w1 (w1.alloc (.cells #[.slice Al pb.slots.length al, .slice Bl pb.vols.length bl, .slice Cl os.length cl, .int .i64 (sn : Int)] 44)) := bel_alloc (Below.refl _ _) _
  generalize w1.alloc (.cells #[.slice Al pb.slots.length al, .slice Bl pb.vols.length bl, .slice Cl os.length cl, .int .i64 (sn : Int)] 44) = W2 at hnew hb ⊢
  replace Jl := Lib.hid (Jl.out.bel hb)
  replace KW := Lib.hid (KW.out.tr hb)
  obtain ⟨bkl, hbn⟩ : ∃ b, w1.heap.size = b := ⟨_, rfl⟩
  rw [hbn] at hnew ⊢
  have Vl := Lib.hid hnew
  clear hnew hb hbn Jl
  refine (implLogPack_n Vl.out.inn HSl.out HX.out).mono ?_
  rintro e w3 ⟨Ax, Bx, Cx, ax, bx, cx, rfl, hin, hb⟩
  replace Vl := Lib.hid (Vl.out.bel hb)
  replace KW := Lib.hid (KW.out.tr hb)
  have Jx := Lib.hid hin
  clear hin hb
  have el0 : w3.cell? ⟨bkl, 0, none⟩ = some (.slice Al pb.slots.length al) := Vl.out.c0
  have el1 : w3.cell? ⟨bkl, 1, none⟩ = some (.slice Bl pb.vols.length bl) := Vl.out.c1
  have el2 : w3.cell? ⟨bkl, 2, none⟩ = some (.slice Cl os.length cl) := Vl.out.c2
  have el3 : w3.cell? ⟨bkl, 3, none⟩ = some (.int .i64 (sn : Int)) := Vl.out.c3
  have eyl := Vl.out.lt
  go_wp2
  clear el0 el1 el2 el3 eyl
  have hnew := LVar.new Jx.out
  have hb : Bel w3 (w3.alloc (.cells #[.slice Ax r.slots.length ax, .slice Bx r.vols.length bx, .slice Cx dk.length cx, .int .i64 0] 44)) := bel_alloc (Below.refl _ _) _
  generalize w3.alloc (.cells #[.slice Ax r.slots.length ax, .slice Bx r.vols.length bx, .slice Cx dk.length cx, .int .i64 0] 44) = W4 at hnew hb ⊢
  replace Vl := Lib.hid (Vl.out.bel hb)
  replace Jx := Lib.hid (Jx.out.bel hb)
  replace KW := Lib.hid (KW.out.tr hb)
  obtain ⟨bkx, hbn⟩ : ∃ b, w3.heap.size = b := ⟨_, rfl⟩
  rw [hbn] at hnew ⊢
  have Vx := Lib.hid hnew
  clear hnew hb hbn Jx
  have hb : Bel W4 W4.drew := (Below.refl _ _).drew
  replace Vl := Lib.hid (Vl.out.bel hb)
  replace Vx := Lib.hid (Vx.out.bel hb)
  replace KW := Lib.hid (KW.out.tr hb)
  clear hb
  refine start_ (n := 10) (S := fun w' => w'.cell? ⟨bkx, 0, none⟩ = some (.slice Ax r.slots.length ax) ∧ w'.cell? ⟨bkx, 1, none⟩ = some (.slice Bx r.vols.length bx) ∧ w'.cell? ⟨bkx, 2, none⟩ = some (.slice Cx dk.length cx) ∧ w'.cell? ⟨bkx, 3, none⟩ = some (.int .i64 0) ∧ w'.cell? ⟨bkl, 0, none⟩ = some (.slice Al pb.slots.length al) ∧ w'.cell? ⟨bkl, 1, none⟩ = some (.slice Bl pb.vols.length bl) ∧ w'.cell? ⟨bkl, 2, none⟩ = some (.slice Cl os.length cl) ∧ w'.cell? ⟨bkl, 3, none⟩ = some (.int .i64 (sn : Int))) (ds := []) #[bF, bF, bF, bF, bF, bF, bF, bF, bF, bF] (by kernel_rfl) rfl rfl ⟨Vx.out.c0, Vx.out.c1, Vx.out.c2, Vx.out.c3, Vl.out.c0, Vl.out.c1, Vl.out.c2, Vl.out.c3⟩ (fun hHeld => ?_)
  refine take_ (i := 0) (N := some 12) (v := ?_) (a' := ?_) #[bT, bF, bF, bF, bF, bF, bF, bF, bF, bF] rfl rfl (by kernel_rfl) (fun _ _ _ h => h) (Or.inl ⟨by rfl, ?_⟩) hHeld ?_ ?_
  rotate_left
  · rintro w' ⟨s0, s1, s2, s3, s4, s5, s6, s7⟩
    go_simp
    with_reducible rfl
  rotate_left
  · simp only [Act.put, lA, lB, lC, i64_w, i32_w]
    rfl
  refine take_ (i := 1) (N := some 13) (v := ?_) (a' := ?_) #[bT, bT, bF, bF, bF, bF, bF, bF, bF, bF] rfl rfl (by kernel_rfl) (fun _ _ _ h => h) (Or.inl ⟨by rfl, ?_⟩) hHeld ?_ ?_
  rotate_left
  · rintro w' ⟨s0, s1, s2, s3, s4, s5, s6, s7⟩
    go_simp
    with_reducible rfl
  rotate_left
  · simp only [Act.put, lA, lB, lC, i64_w, i32_w]
    rfl
  refine one_ (i := 2) (N := some 14) #[bT, bT, bT, bF, bF, bF, bF, bF, bF, bF] rfl rfl (by kernel_rfl) (by decide) (fun K hK => ?_)
  refine goes_ Tryz.func33 (by kernel_rfl) rfl #[.agg #[.slice Al pb.slots.length al, .slice Bl pb.vols.length bl, .slice Cl os.length cl, .int .i64 (sn : Int)]] (by rfl) rfl rfl (by simp only [List.map_toArray, List.map_cons, List.map_nil]; rfl) ?_
  with_reducible refine (specLogPack_n Vl.out.inn HSl.out HX.out).mono ?_
  rintro e w5 ⟨Ay5, By5, Cy5, ay5, by5, cy5, rfl, hin, hb⟩
  replace Vl := Lib.hid (Vl.out.bel hb)
  replace Vx := Lib.hid (Vx.out.bel hb)
  replace KW := Lib.hid (KW.out.tr hb)
  have Jy5 := Lib.hid hin
  clear hin hb
  refine ⟨_, rfl, ?_⟩
  refine hK.out _ _ ⟨Vx.out.c0, Vx.out.c1, Vx.out.c2, Vx.out.c3, Vl.out.c0, Vl.out.c1, Vl.out.c2, Vl.out.c3⟩ (fun hHeld => ?_)
  clear hK K
  refine norm_ (a' := ?_) ?_ ?_
  rotate_left
  · show Act.put _ (some 14) _ = _
    simp only [Act.put, lA, lB, lC, i64_w, i32_w]
    rfl
  refine one_ (i := 3) (N := some 15) #[bT, bT, bT, bT, bF, bF, bF, bF, bF, bF] rfl rfl (by kernel_rfl) (by decide) (fun K hK => ?_)
  refine goes_ Tryz.func32 (by kernel_rfl) rfl #[.agg #[.slice Ax r.slots.length ax, .slice Bx r.vols.length bx, .slice Cx dk.length cx, .int .i64 0], .agg #[.slice Ay5 r.slots.length ay5, .slice By5 r.vols.length by5, .slice Cy5 dk.length cy5, .int .i64 0]] (by rfl) rfl rfl (by simp only [List.map_toArray, List.map_cons, List.map_nil]; rfl) ?_
  with_reducible refine (lgLog_c (l := ⟨r, dk, 0⟩) Vx.out.inn Jy5.out HSx.out).mono ?_
  rintro e w6 ⟨rfl, hb⟩
  replace Vl := Lib.hid (Vl.out.bel hb)
  replace Vx := Lib.hid (Vx.out.bel hb)
  replace Jy5 := Lib.hid (Jy5.out.bel hb)
  replace KW := Lib.hid (KW.out.tr hb)
  clear hb
  refine ⟨_, rfl, ?_⟩
  refine hK.out _ _ ⟨Vx.out.c0, Vx.out.c1, Vx.out.c2, Vx.out.c3, Vl.out.c0, Vl.out.c1, Vl.out.c2, Vl.out.c3⟩ (fun hHeld => ?_)
  clear hK K
  refine norm_ (a' := ?_) ?_ ?_
  rotate_left
  · show Act.put _ (some 15) _ = _
    simp only [Act.put, lA, lB, lC, i64_w, i32_w]
    rfl
  refine pure_ (i := 4) (N := some 16) (v := ?_) (a' := ?_) #[bT, bT, bT, bT, bT, bF, bF, bF, bF, bF] rfl rfl (by kernel_rfl) (fun _ _ _ h => h) (Or.inl ⟨by rfl, ?_⟩) ?_ ?_
  rotate_left
  · intro w'
    go_simp
    with_reducible rfl
  rotate_left
  · simp only [Act.put, lA, lB, lC, i64_w, i32_w]
    rfl
  refine pure_ (i := 5) (N := some 17) (v := ?_) (a' := ?_) #[bT, bT, bT, bT, bT, bT, bF, bF, bF, bF] rfl rfl (by kernel_rfl) (fun _ _ _ h => h) (Or.inl ⟨by rfl, ?_⟩) ?_ ?_
  rotate_left
  · intro w'
    go_simp
    with_reducible rfl
  rotate_left
  · simp only [Act.put, lA, lB, lC, i64_w, i32_w]
    rfl
  refine take_ (i := 6) (N := some 18) (v := ?_) (a' := ?_) #[bT, bT, bT, bT, bT, bT, bT, bF, bF, bF] rfl rfl (by kernel_rfl) (fun _ _ _ h => h) (Or.inl ⟨by rfl, ?_⟩) hHeld ?_ ?_
  rotate_left
  · rintro w' ⟨s0, s1, s2, s3, s4, s5, s6, s7⟩
    go_simp
    with_reducible rfl
  rotate_left
  · simp only [Act.put, lA, lB, lC, i64_w, i32_w]
    rfl
  refine one_ (i := 7) (N := some 19) #[bT, bT, bT, bT, bT, bT, bT, bT, bF, bF] rfl rfl (by kernel_rfl) (by decide) (fun K hK => ?_)
  refine goes_ Tryz.func34 (by kernel_rfl) rfl #[.agg #[.slice Al pb.slots.length al, .slice Bl pb.vols.length bl, .slice Cl os.length cl, .int .i64 (sn : Int)]] (by rfl) rfl rfl (by simp only [List.map_toArray, List.map_cons, List.map_nil]; rfl) ?_
  with_reducible refine (specLogOk_n Vl.out.inn HSl.out HOK.out).mono ?_
  rintro e w7 ⟨rfl, hb⟩
  replace Vl := Lib.hid (Vl.out.bel hb)
  replace Vx := Lib.hid (Vx.out.bel hb)
  replace Jy5 := Lib.hid (Jy5.out.bel hb)
  replace KW := Lib.hid (KW.out.tr hb)
  clear hb
  refine ⟨_, rfl, ?_⟩
  refine hK.out _ _ ⟨Vx.out.c0, Vx.out.c1, Vx.out.c2, Vx.out.c3, Vl.out.c0, Vl.out.c1, Vl.out.c2, Vl.out.c3⟩ (fun hHeld => ?_)
  clear hK K
  refine norm_ (a' := ?_) ?_ ?_
  rotate_left
  · show Act.put _ (some 19) _ = _
    simp only [Act.put, lA, lB, lC, i64_w, i32_w]
    rfl
  refine pure_ (i := 8) (N := some 20) (v := ?_) (a' := ?_) #[bT, bT, bT, bT, bT, bT, bT, bT, bT, bF] rfl rfl (by kernel_rfl) (fun _ _ _ h => h) (Or.inl ⟨by rfl, ?_⟩) ?_ ?_
  rotate_left
  · intro w'
    go_simp
    with_reducible rfl
  rotate_left
  · simp only [Act.put, lA, lB, lC, i64_w, i32_w]
    rfl
  refine pure_ (i := 9) (N := some 21) (v := ?_) (a' := ?_) #[bT, bT, bT, bT, bT, bT, bT, bT, bT, bT] rfl rfl (by kernel_rfl) (fun _ _ _ h => h) (Or.inl ⟨by rfl, ?_⟩) ?_ ?_
  rotate_left
  · intro w'
    go_simp
    with_reducible rfl
  rotate_left
  · simp only [Act.put, lA, lB, lC, i64_w, i32_w]
    rfl
  refine done_ (by kernel_rfl) ?_
  have el0 : w7.cell? ⟨bkl, 0, none⟩ = some (.slice Al pb.slots.length al) := Vl.out.c0
  have el1 : w7.cell? ⟨bkl, 1, none⟩ = some (.slice Bl pb.vols.length bl) := Vl.out.c1
  have el2 : w7.cell? ⟨bkl, 2, none⟩ = some (.slice Cl os.length cl) := Vl.out.c2
  have el3 : w7.cell? ⟨bkl, 3, none⟩ = some (.int .i64 (sn : Int)) := Vl.out.c3
  have eyl := Vl.out.lt
  have ex0 : w7.cell? ⟨bkx, 0, none⟩ = some (.slice Ax r.slots.length ax) := Vx.out.c0
  have ex1 : w7.cell? ⟨bkx, 1, none⟩ = some (.slice Bx r.vols.length bx) := Vx.out.c1
  have ex2 : w7.cell? ⟨bkx, 2, none⟩ = some (.slice Cx dk.length cx) := Vx.out.c2
  have ex3 : w7.cell? ⟨bkx, 3, none⟩ = some (.int .i64 0) := Vx.out.c3
  have eyx := Vx.out.lt
  go_wp2
  clear el0 el1 el2 el3 eyl
  clear ex0 ex1 ex2 ex3 eyx
  have hb : Bel w7 w7.drew := (Below.refl _ _).drew
  replace Vl := Lib.hid (Vl.out.bel hb)
  replace Vx := Lib.hid (Vx.out.bel hb)
  replace KW := Lib.hid (KW.out.tr hb)
  clear hb
  refine start_ (n := 31) (S := fun w' => w'.cell? ⟨bkx, 0, none⟩ = some (.slice Ax r.slots.length ax) ∧ w'.cell? ⟨bkx, 1, none⟩ = some (.slice Bx r.vols.length bx) ∧ w'.cell? ⟨bkx, 2, none⟩ = some (.slice Cx dk.length cx) ∧ w'.cell? ⟨bkx, 3, none⟩ = some (.int .i64 0) ∧ w'.cell? ⟨bkl, 0, none⟩ = some (.slice Al pb.slots.length al) ∧ w'.cell? ⟨bkl, 1, none⟩ = some (.slice Bl pb.vols.length bl) ∧ w'.cell? ⟨bkl, 2, none⟩ = some (.slice Cl os.length cl) ∧ w'.cell? ⟨bkl, 3, none⟩ = some (.int .i64 (sn : Int))) (ds := []) #[bF, bF, bF, bF, bF, bF, bF, bF, bF, bF, bF, bF, bF, bF, bF, bF, bF, bF, bF, bF, bF, bF, bF, bF, bF, bF, bF, bF, bF, bF, bF] (by kernel_rfl) rfl rfl ⟨Vx.out.c0, Vx.out.c1, Vx.out.c2, Vx.out.c3, Vl.out.c0, Vl.out.c1, Vl.out.c2, Vl.out.c3⟩ (fun hHeld => ?_)
  refine take_ (i := 0) (N := some 26) (v := ?_) (a' := ?_) #[bT, bF, bF, bF, bF, bF, bF, bF, bF, bF, bF, bF, bF, bF, bF, bF, bF, bF, bF, bF, bF, bF, bF, bF, bF, bF, bF, bF, bF, bF, bF] rfl rfl (by kernel_rfl) (fun _ _ _ h => h) (Or.inl ⟨by rfl, ?_⟩) hHeld ?_ ?_
  rotate_left
  · rintro w' ⟨s0, s1, s2, s3, s4, s5, s6, s7⟩
    go_simp
    with_reducible rfl
  rotate_left
  · simp only [Act.put, lA, lB, lC, i64_w, i32_w]
    rfl
  refine take_ (i := 2) (N := some 28) (v := ?_) (a' := ?_) #[bT, bF, bT, bF, bF, bF, bF, bF, bF, bF, bF, bF, bF, bF, bF, bF, bF, bF, bF, bF, bF, bF, bF, bF, bF, bF, bF, bF, bF, bF, bF] rfl rfl (by kernel_rfl) (fun _ _ _ h => h) (Or.inl ⟨by rfl, ?_⟩) hHeld ?_ ?_
  rotate_left
  · rintro w' ⟨s0, s1, s2, s3, s4, s5, s6, s7⟩
    go_simp
    with_reducible rfl
  rotate_left
  · simp only [Act.put, lA, lB, lC, i64_w, i32_w]
    rfl
  refine one_ (i := 1) (N := some 27) #[bT, bT, bT, bF, bF, bF, bF, bF, bF, bF, bF, bF, bF, bF, bF, bF, bF, bF, bF, bF, bF, bF, bF, bF, bF, bF, bF, bF, bF, bF, bF] rfl rfl (by kernel_rfl) (by decide) (fun K hK => ?_)
  refine goes_ Tryz.func36 (by kernel_rfl) rfl #[.agg #[.slice Ax r.slots.length ax, .slice Bx r.vols.length bx, .slice Cx dk.length cx, .int .i64 0]] (by rfl) rfl rfl (by simp only [List.map_toArray, List.map_cons, List.map_nil]; rfl) ?_
  with_reducible refine (implLogPool_n (l := ⟨r, dk, 0⟩) Vx.out.inn HSx.out HLX.out.poolE).mono ?_
  rintro e w8 ⟨Au, Bu, cu, du, rfl, hin, hb⟩
  replace Vl := Lib.hid (Vl.out.bel hb)
  replace Vx := Lib.hid (Vx.out.bel hb)
  replace KW := Lib.hid (KW.out.tr hb)
  have Iu := Lib.hid hin
  clear hin hb
  refine ⟨_, rfl, ?_⟩
  refine hK.out _ _ ⟨Vx.out.c0, Vx.out.c1, Vx.out.c2, Vx.out.c3, Vl.out.c0, Vl.out.c1, Vl.out.c2, Vl.out.c3⟩ (fun hHeld => ?_)
  clear hK K
  refine norm_ (a' := ?_) ?_ ?_
  rotate_left
  · show Act.put _ (some 27) _ = _
    simp only [Act.put, lA, lB, lC, i64_w, i32_w]
    rfl
  refine one_ (i := 3) (N := some 29) #[bT, bT, bT, bT, bF, bF, bF, bF, bF, bF, bF, bF, bF, bF, bF, bF, bF, bF, bF, bF, bF, bF, bF, bF, bF, bF, bF, bF, bF, bF, bF] rfl rfl (by kernel_rfl) (by decide) (fun K hK => ?_)
  refine goes_ Tryz.func36 (by kernel_rfl) rfl #[.agg #[.slice Al pb.slots.length al, .slice Bl pb.vols.length bl, .slice Cl os.length cl, .int .i64 (sn : Int)]] (by rfl) rfl rfl (by simp only [List.map_toArray, List.map_cons, List.map_nil]; rfl) ?_
  with_reducible refine (implLogPool_n (l := ⟨pb, os, sn⟩) Vl.out.inn HSl.out HLP.out.poolE).mono ?_
  rintro e w9 ⟨Av, Bv, cv, dv, rfl, hin, hb⟩
  replace Vl := Lib.hid (Vl.out.bel hb)
  replace Vx := Lib.hid (Vx.out.bel hb)
  replace Iu := Lib.hid (Iu.out.bel hb)
  replace KW := Lib.hid (KW.out.tr hb)
  have Iv := Lib.hid hin
  clear hin hb
  refine ⟨_, rfl, ?_⟩
  refine hK.out _ _ ⟨Vx.out.c0, Vx.out.c1, Vx.out.c2, Vx.out.c3, Vl.out.c0, Vl.out.c1, Vl.out.c2, Vl.out.c3⟩ (fun hHeld => ?_)
  clear hK K
  refine norm_ (a' := ?_) ?_ ?_
  rotate_left
  · show Act.put _ (some 29) _ = _
    simp only [Act.put, lA, lB, lC, i64_w, i32_w]
    rfl
  refine one_ (i := 4) (N := some 30) #[bT, bT, bT, bT, bT, bF, bF, bF, bF, bF, bF, bF, bF, bF, bF, bF, bF, bF, bF, bF, bF, bF, bF, bF, bF, bF, bF, bF, bF, bF, bF] rfl rfl (by kernel_rfl) (by decide) (fun K hK => ?_)
  refine goes_ Tryz.func35 (by kernel_rfl) rfl #[.agg #[.slice Au q0.slots.length cu, .slice Bu q0.vols.length du], .agg #[.slice Av q0.slots.length cv, .slice Bv q0.vols.length dv]] (by rfl) rfl rfl (by simp only [List.map_toArray, List.map_cons, List.map_nil]; rfl) ?_
  with_reducible refine (lgPool_c Iu.out Iv.out HSq.out).mono ?_
  rintro e w10 ⟨rfl, hb⟩
  replace Vl := Lib.hid (Vl.out.bel hb)
  replace Vx := Lib.hid (Vx.out.bel hb)
  replace Iu := Lib.hid (Iu.out.bel hb)
  replace Iv := Lib.hid (Iv.out.bel hb)
  replace KW := Lib.hid (KW.out.tr hb)
  clear hb
  refine ⟨_, rfl, ?_⟩
  refine hK.out _ _ ⟨Vx.out.c0, Vx.out.c1, Vx.out.c2, Vx.out.c3, Vl.out.c0, Vl.out.c1, Vl.out.c2, Vl.out.c3⟩ (fun hHeld => ?_)
  clear hK K
  refine norm_ (a' := ?_) ?_ ?_
  rotate_left
  · show Act.put _ (some 30) _ = _
    simp only [Act.put, lA, lB, lC, i64_w, i32_w]
    rfl
  refine pure_ (i := 5) (N := some 31) (v := ?_) (a' := ?_) #[bT, bT, bT, bT, bT, bT, bF, bF, bF, bF, bF, bF, bF, bF, bF, bF, bF, bF, bF, bF, bF, bF, bF, bF, bF, bF, bF, bF, bF, bF, bF] rfl rfl (by kernel_rfl) (fun _ _ _ h => h) (Or.inl ⟨by rfl, ?_⟩) ?_ ?_
  rotate_left
  · intro w'
    go_simp
    with_reducible rfl
  rotate_left
  · simp only [Act.put, lA, lB, lC, i64_w, i32_w]
    rfl
  refine pure_ (i := 6) (N := some 32) (v := ?_) (a' := ?_) #[bT, bT, bT, bT, bT, bT, bT, bF, bF, bF, bF, bF, bF, bF, bF, bF, bF, bF, bF, bF, bF, bF, bF, bF, bF, bF, bF, bF, bF, bF, bF] rfl rfl (by kernel_rfl) (fun _ _ _ h => h) (Or.inl ⟨by rfl, ?_⟩) ?_ ?_
  rotate_left
  · intro w'
    go_simp
    with_reducible rfl
  rotate_left
  · simp only [Act.put, lA, lB, lC, i64_w, i32_w]
    rfl
  refine pure_ (i := 8) (N := some 34) (v := ?_) (a' := ?_) #[bT, bT, bT, bT, bT, bT, bT, bF, bT, bF, bF, bF, bF, bF, bF, bF, bF, bF, bF, bF, bF, bF, bF, bF, bF, bF, bF, bF, bF, bF, bF] rfl rfl (by kernel_rfl) (fun _ _ _ h => h) (Or.inl ⟨by rfl, ?_⟩) ?_ ?_
  rotate_left
  · intro w'
    go_simp
    with_reducible rfl
  rotate_left
  · simp only [Act.put, lA, lB, lC, i64_w, i32_w]
    rfl
  refine pure_ (i := 10) (N := some 36) (v := ?_) (a' := ?_) #[bT, bT, bT, bT, bT, bT, bT, bF, bT, bF, bT, bF, bF, bF, bF, bF, bF, bF, bF, bF, bF, bF, bF, bF, bF, bF, bF, bF, bF, bF, bF] rfl rfl (by kernel_rfl) (fun _ _ _ h => h) (Or.inl ⟨by rfl, ?_⟩) ?_ ?_
  rotate_left
  · intro w'
    go_simp
    with_reducible rfl
  rotate_left
  · simp only [Act.put, lA, lB, lC, i64_w, i32_w]
    rfl
  refine take_ (i := 7) (N := some 33) (v := ?_) (a' := ?_) #[bT, bT, bT, bT, bT, bT, bT, bT, bT, bF, bT, bF, bF, bF, bF, bF, bF, bF, bF, bF, bF, bF, bF, bF, bF, bF, bF, bF, bF, bF, bF] rfl rfl (by kernel_rfl) (fun _ _ _ h => h) (Or.inl ⟨by rfl, ?_⟩) hHeld ?_ ?_
  rotate_left
  · rintro w' ⟨s0, s1, s2, s3, s4, s5, s6, s7⟩
    go_simp
    with_reducible rfl
  rotate_left
  · simp only [Act.put, lA, lB, lC, i64_w, i32_w]
    rfl
  refine take_ (i := 9) (N := some 35) (v := ?_) (a' := ?_) #[bT, bT, bT, bT, bT, bT, bT, bT, bT, bT, bT, bF, bF, bF, bF, bF, bF, bF, bF, bF, bF, bF, bF, bF, bF, bF, bF, bF, bF, bF, bF] rfl rfl (by kernel_rfl) (fun _ _ _ h => h) (Or.inl ⟨by rfl, ?_⟩) hHeld ?_ ?_
  rotate_left
  · rintro w' ⟨s0, s1, s2, s3, s4, s5, s6, s7⟩
    go_simp
    with_reducible rfl
  rotate_left
  · simp only [Act.put, lA, lB, lC, i64_w, i32_w]
    rfl
  refine take_ (i := 11) (N := some 37) (v := ?_) (a' := ?_) #[bT, bT, bT, bT, bT, bT, bT, bT, bT, bT, bT, bT, bF, bF, bF, bF, bF, bF, bF, bF, bF, bF, bF, bF, bF, bF, bF, bF, bF, bF, bF] rfl rfl (by kernel_rfl) (fun _ _ _ h => h) (Or.inl ⟨by rfl, ?_⟩) hHeld ?_ ?_
  rotate_left
  · rintro w' ⟨s0, s1, s2, s3, s4, s5, s6, s7⟩
    go_simp
    with_reducible rfl
  rotate_left
  · simp only [Act.put, lA, lB, lC, i64_w, i32_w]
    rfl
  refine pure_ (i := 12) (N := some 38) (v := ?_) (a' := ?_) #[bT, bT, bT, bT, bT, bT, bT, bT, bT, bT, bT, bT, bT, bF, bF, bF, bF, bF, bF, bF, bF, bF, bF, bF, bF, bF, bF, bF, bF, bF, bF] rfl rfl (by kernel_rfl) (fun _ _ _ h => h) (Or.inl ⟨by rfl, ?_⟩) ?_ ?_
  rotate_left
  · intro w'
    go_simp
    with_reducible rfl
  rotate_left
  · simp only [Act.put, lA, lB, lC, i64_w, i32_w]
    rfl
  refine one_ (i := 13) (N := some 39) #[bT, bT, bT, bT, bT, bT, bT, bT, bT, bT, bT, bT, bT, bT, bF, bF, bF, bF, bF, bF, bF, bF, bF, bF, bF, bF, bF, bF, bF, bF, bF] rfl rfl (by kernel_rfl) (by decide) (fun K hK => ?_)
  refine goes_ Tryz.func27 (by kernel_rfl) rfl #[.slice Cx dk.length cx, .slice (if cl = sn then Cl else Option.map (fun x => x.add (sn * 5)) Cl) (os.length - sn) (cl - sn)] (by rfl) rfl rfl (by simp only [List.map_toArray, List.map_cons, List.map_nil]; rfl) ?_
  with_reducible refine (HLO.out _ Vx.out.inn.o (Vl.out.inn.dropC hkl HDK.out HRAW.out)).mono ?_
  rintro e w11 ⟨rfl, hb⟩
  replace Vl := Lib.hid (Vl.out.bel hb)
  replace Vx := Lib.hid (Vx.out.bel hb)
  replace Iu := Lib.hid (Iu.out.bel hb)
  replace Iv := Lib.hid (Iv.out.bel hb)
  replace KW := Lib.hid (KW.out.tr hb)
  clear hb
  refine ⟨_, rfl, ?_⟩
  refine hK.out _ _ ⟨Vx.out.c0, Vx.out.c1, Vx.out.c2, Vx.out.c3, Vl.out.c0, Vl.out.c1, Vl.out.c2, Vl.out.c3⟩ (fun hHeld => ?_)
  clear hK K
  refine norm_ (a' := ?_) ?_ ?_
  rotate_left
  · show Act.put _ (some 39) _ = _
    simp only [Act.put, lA, lB, lC, i64_w, i32_w]
    rfl
  refine pure_ (i := 14) (N := some 40) (v := ?_) (a' := ?_) #[bT, bT, bT, bT, bT, bT, bT, bT, bT, bT, bT, bT, bT, bT, bT, bF, bF, bF, bF, bF, bF, bF, bF, bF, bF, bF, bF, bF, bF, bF, bF] rfl rfl (by kernel_rfl) (fun _ _ _ h => h) (Or.inl ⟨by rfl, ?_⟩) ?_ ?_
  rotate_left
  · intro w'
    go_simp
    with_reducible rfl
  rotate_left
  · simp only [Act.put, lA, lB, lC, i64_w, i32_w]
    rfl
  refine pure_ (i := 15) (N := some 41) (v := ?_) (a' := ?_) #[bT, bT, bT, bT, bT, bT, bT, bT, bT, bT, bT, bT, bT, bT, bT, bT, bF, bF, bF, bF, bF, bF, bF, bF, bF, bF, bF, bF, bF, bF, bF] rfl rfl (by kernel_rfl) (fun _ _ _ h => h) (Or.inl ⟨by rfl, ?_⟩) ?_ ?_
  rotate_left
  · intro w'
    go_simp
    with_reducible rfl
  rotate_left
  · simp only [Act.put, lA, lB, lC, i64_w, i32_w]
    rfl
  refine pure_ (i := 16) (N := some 42) (v := ?_) (a' := ?_) #[bT, bT, bT, bT, bT, bT, bT, bT, bT, bT, bT, bT, bT, bT, bT, bT, bT, bF, bF, bF, bF, bF, bF, bF, bF, bF, bF, bF, bF, bF, bF] rfl rfl (by kernel_rfl) (fun _ _ _ h => h) (Or.inl ⟨by rfl, ?_⟩) ?_ ?_
  rotate_left
  · intro w'
    go_simp
    with_reducible rfl
  rotate_left
  · simp only [Act.put, lA, lB, lC, i64_w, i32_w]
    rfl
  refine take_ (i := 17) (N := some 43) (v := ?_) (a' := ?_) #[bT, bT, bT, bT, bT, bT, bT, bT, bT, bT, bT, bT, bT, bT, bT, bT, bT, bT, bF, bF, bF, bF, bF, bF, bF, bF, bF, bF, bF, bF, bF] rfl rfl (by kernel_rfl) (fun _ _ _ h => h) (Or.inl ⟨by rfl, ?_⟩) hHeld ?_ ?_
  rotate_left
  · rintro w' ⟨s0, s1, s2, s3, s4, s5, s6, s7⟩
    go_simp
    with_reducible rfl
  rotate_left
  · simp only [Act.put, lA, lB, lC, i64_w, i32_w]
    rfl
  refine pure_ (i := 18) (N := some 44) (v := ?_) (a' := ?_) #[bT, bT, bT, bT, bT, bT, bT, bT, bT, bT, bT, bT, bT, bT, bT, bT, bT, bT, bT, bF, bF, bF, bF, bF, bF, bF, bF, bF, bF, bF, bF] rfl rfl (by kernel_rfl) (fun _ _ _ h => h) (Or.inl ⟨by rfl, ?_⟩) ?_ ?_
  rotate_left
  · intro w'
    go_simp
    with_reducible rfl
  rotate_left
  · simp only [Act.put, lA, lB, lC, i64_w, i32_w]
    rfl
  refine pure_ (i := 19) (N := some 45) (v := ?_) (a' := ?_) #[bT, bT, bT, bT, bT, bT, bT, bT, bT, bT, bT, bT, bT, bT, bT, bT, bT, bT, bT, bT, bF, bF, bF, bF, bF, bF, bF, bF, bF, bF, bF] rfl rfl (by kernel_rfl) (fun _ _ _ h => h) (Or.inl ⟨by rfl, ?_⟩) ?_ ?_
  rotate_left
  · intro w'
    go_simp
    with_reducible rfl
  rotate_left
  · simp only [Act.put, lA, lB, lC, i64_w, i32_w]
    rfl
  refine pure_ (i := 20) (N := some 46) (v := ?_) (a' := ?_) #[bT, bT, bT, bT, bT, bT, bT, bT, bT, bT, bT, bT, bT, bT, bT, bT, bT, bT, bT, bT, bT, bF, bF, bF, bF, bF, bF, bF, bF, bF, bF] rfl rfl (by kernel_rfl) (fun _ _ _ h => h) (Or.inl ⟨by rfl, ?_⟩) ?_ ?_
  rotate_left
  · intro w'
    go_simp
    with_reducible rfl
  rotate_left
  · simp only [Act.put, lA, lB, lC, i64_w, i32_w]
    rfl
  refine take_ (i := 21) (N := some 47) (v := ?_) (a' := ?_) #[bT, bT, bT, bT, bT, bT, bT, bT, bT, bT, bT, bT, bT, bT, bT, bT, bT, bT, bT, bT, bT, bT, bF, bF, bF, bF, bF, bF, bF, bF, bF] rfl rfl (by kernel_rfl) (fun _ _ _ h => h) (Or.inl ⟨by rfl, ?_⟩) hHeld ?_ ?_
  rotate_left
  · rintro w' ⟨s0, s1, s2, s3, s4, s5, s6, s7⟩
    go_simp
    with_reducible rfl
  rotate_left
  · simp only [Act.put, lA, lB, lC, i64_w, i32_w]
    rfl
  refine take_ (i := 23) (N := some 49) (v := ?_) (a' := ?_) #[bT, bT, bT, bT, bT, bT, bT, bT, bT, bT, bT, bT, bT, bT, bT, bT, bT, bT, bT, bT, bT, bT, bF, bT, bF, bF, bF, bF, bF, bF, bF] rfl rfl (by kernel_rfl) (fun _ _ _ h => h) (Or.inl ⟨by rfl, ?_⟩) hHeld ?_ ?_
  rotate_left
  · rintro w' ⟨s0, s1, s2, s3, s4, s5, s6, s7⟩
    go_simp
    with_reducible rfl
  rotate_left
  · simp only [Act.put, lA, lB, lC, i64_w, i32_w]
    rfl
  refine one_ (i := 22) (N := some 48) #[bT, bT, bT, bT, bT, bT, bT, bT, bT, bT, bT, bT, bT, bT, bT, bT, bT, bT, bT, bT, bT, bT, bT, bT, bF, bF, bF, bF, bF, bF, bF] rfl rfl (by kernel_rfl) (by decide) (fun K hK => ?_)
  refine goes_ Tryz.func31 (by kernel_rfl) rfl #[.agg #[.slice Ax r.slots.length ax, .slice Bx r.vols.length bx, .slice Cx dk.length cx, .int .i64 0]] (by rfl) rfl rfl (by simp only [List.map_toArray, List.map_cons, List.map_nil]; rfl) ?_
  with_reducible refine (implLogPack_n (l := ⟨r, dk, 0⟩) Vx.out.inn HSx.out (pack_idem HLX.out rfl)).mono ?_
  rintro e w12 ⟨Az, Bz, Cz, az, bz, cz, rfl, hin, hb⟩
  replace Vl := Lib.hid (Vl.out.bel hb)
  replace Vx := Lib.hid (Vx.out.bel hb)
  replace Iu := Lib.hid (Iu.out.bel hb)
  replace Iv := Lib.hid (Iv.out.bel hb)
  replace KW := Lib.hid (KW.out.tr hb)
  have Jz := Lib.hid hin
  clear hin hb
  refine ⟨_, rfl, ?_⟩
  refine hK.out _ _ ⟨Vx.out.c0, Vx.out.c1, Vx.out.c2, Vx.out.c3, Vl.out.c0, Vl.out.c1, Vl.out.c2, Vl.out.c3⟩ (fun hHeld => ?_)
  clear hK K
  refine norm_ (a' := ?_) ?_ ?_
  rotate_left
  · show Act.put _ (some 48) _ = _
    simp only [Act.put, lA, lB, lC, i64_w, i32_w]
    rfl
  refine one_ (i := 24) (N := some 50) #[bT, bT, bT, bT, bT, bT, bT, bT, bT, bT, bT, bT, bT, bT, bT, bT, bT, bT, bT, bT, bT, bT, bT, bT, bT, bF, bF, bF, bF, bF, bF] rfl rfl (by kernel_rfl) (by decide) (fun K hK => ?_)
  refine goes_ Tryz.func32 (by kernel_rfl) rfl #[.agg #[.slice Az r.slots.length az, .slice Bz r.vols.length bz, .slice Cz dk.length cz, .int .i64 0], .agg #[.slice Ax r.slots.length ax, .slice Bx r.vols.length bx, .slice Cx dk.length cx, .int .i64 0]] (by rfl) rfl rfl (by simp only [List.map_toArray, List.map_cons, List.map_nil]; rfl) ?_
  with_reducible refine (lgLog_c (l := ⟨r, dk, 0⟩) Jz.out Vx.out.inn HSx.out).mono ?_
  rintro e w13 ⟨rfl, hb⟩
  replace Vl := Lib.hid (Vl.out.bel hb)
  replace Vx := Lib.hid (Vx.out.bel hb)
  replace Iu := Lib.hid (Iu.out.bel hb)
  replace Iv := Lib.hid (Iv.out.bel hb)
  replace Jz := Lib.hid (Jz.out.bel hb)
  replace KW := Lib.hid (KW.out.tr hb)
  clear hb
  refine ⟨_, rfl, ?_⟩
  refine hK.out _ _ ⟨Vx.out.c0, Vx.out.c1, Vx.out.c2, Vx.out.c3, Vl.out.c0, Vl.out.c1, Vl.out.c2, Vl.out.c3⟩ (fun hHeld => ?_)
  clear hK K
  refine norm_ (a' := ?_) ?_ ?_
  rotate_left
  · show Act.put _ (some 50) _ = _
    simp only [Act.put, lA, lB, lC, i64_w, i32_w]
    rfl
  refine pure_ (i := 25) (N := some 51) (v := ?_) (a' := ?_) #[bT, bT, bT, bT, bT, bT, bT, bT, bT, bT, bT, bT, bT, bT, bT, bT, bT, bT, bT, bT, bT, bT, bT, bT, bT, bT, bF, bF, bF, bF, bF] rfl rfl (by kernel_rfl) (fun _ _ _ h => h) (Or.inl ⟨by rfl, ?_⟩) ?_ ?_
  rotate_left
  · intro w'
    go_simp
    with_reducible rfl
  rotate_left
  · simp only [Act.put, lA, lB, lC, i64_w, i32_w]
    rfl
  refine pure_ (i := 26) (N := some 52) (v := ?_) (a' := ?_) #[bT, bT, bT, bT, bT, bT, bT, bT, bT, bT, bT, bT, bT, bT, bT, bT, bT, bT, bT, bT, bT, bT, bT, bT, bT, bT, bT, bF, bF, bF, bF] rfl rfl (by kernel_rfl) (fun _ _ _ h => h) (Or.inl ⟨by rfl, ?_⟩) ?_ ?_
  rotate_left
  · intro w'
    go_simp
    with_reducible rfl
  rotate_left
  · simp only [Act.put, lA, lB, lC, i64_w, i32_w]
    rfl
  refine take_ (i := 27) (N := some 53) (v := ?_) (a' := ?_) #[bT, bT, bT, bT, bT, bT, bT, bT, bT, bT, bT, bT, bT, bT, bT, bT, bT, bT, bT, bT, bT, bT, bT, bT, bT, bT, bT, bT, bF, bF, bF] rfl rfl (by kernel_rfl) (fun _ _ _ h => h) (Or.inl ⟨by rfl, ?_⟩) hHeld ?_ ?_
  rotate_left
  · rintro w' ⟨s0, s1, s2, s3, s4, s5, s6, s7⟩
    go_simp
    with_reducible rfl
  rotate_left
  · simp only [Act.put, lA, lB, lC, i64_w, i32_w]
    rfl
  refine one_ (i := 28) (N := some 54) #[bT, bT, bT, bT, bT, bT, bT, bT, bT, bT, bT, bT, bT, bT, bT, bT, bT, bT, bT, bT, bT, bT, bT, bT, bT, bT, bT, bT, bT, bF, bF] rfl rfl (by kernel_rfl) (by decide) (fun K hK => ?_)
  refine goes_ Tryz.func37 (by kernel_rfl) rfl #[.agg #[.slice Ax r.slots.length ax, .slice Bx r.vols.length bx, .slice Cx dk.length cx, .int .i64 0]] (by rfl) rfl rfl (by simp only [List.map_toArray, List.map_cons, List.map_nil]; rfl) ?_
  with_reducible refine (implLogOk_n (l := ⟨r, dk, 0⟩) Vx.out.inn HSx.out HLX.out.ok).mono ?_
  rintro e w14 ⟨rfl, hb⟩
  replace Vl := Lib.hid (Vl.out.bel hb)
  replace Vx := Lib.hid (Vx.out.bel hb)
  replace Iu := Lib.hid (Iu.out.bel hb)
  replace Iv := Lib.hid (Iv.out.bel hb)
  replace Jz := Lib.hid (Jz.out.bel hb)
  replace KW := Lib.hid (KW.out.tr hb)
  clear hb
  refine ⟨_, rfl, ?_⟩
  refine hK.out _ _ ⟨Vx.out.c0, Vx.out.c1, Vx.out.c2, Vx.out.c3, Vl.out.c0, Vl.out.c1, Vl.out.c2, Vl.out.c3⟩ (fun hHeld => ?_)
  clear hK K
  refine norm_ (a' := ?_) ?_ ?_
  rotate_left
  · show Act.put _ (some 54) _ = _
    simp only [Act.put, lA, lB, lC, i64_w, i32_w]
    rfl
  refine pure_ (i := 29) (N := some 55) (v := ?_) (a' := ?_) #[bT, bT, bT, bT, bT, bT, bT, bT, bT, bT, bT, bT, bT, bT, bT, bT, bT, bT, bT, bT, bT, bT, bT, bT, bT, bT, bT, bT, bT, bT, bF] rfl rfl (by kernel_rfl) (fun _ _ _ h => h) (Or.inl ⟨by rfl, ?_⟩) ?_ ?_
  rotate_left
  · intro w'
    go_simp
    with_reducible rfl
  rotate_left
  · simp only [Act.put, lA, lB, lC, i64_w, i32_w]
    rfl
  refine pure_ (i := 30) (N := some 2) (v := ?_) (a' := ?_) #[bT, bT, bT, bT, bT, bT, bT, bT, bT, bT, bT, bT, bT, bT, bT, bT, bT, bT, bT, bT, bT, bT, bT, bT, bT, bT, bT, bT, bT, bT, bT] rfl rfl (by kernel_rfl) (fun _ _ _ h => h) (Or.inl ⟨by rfl, ?_⟩) ?_ ?_
  rotate_left
  · intro w'
    go_simp
    with_reducible rfl
  rotate_left
  · simp only [Act.put, lA, lB, lC, i64_w, i32_w]
    rfl
  refine done_ (by kernel_rfl) ?_
  have el0 : w14.cell? ⟨bkl, 0, none⟩ = some (.slice Al pb.slots.length al) := Vl.out.c0
  have el1 : w14.cell? ⟨bkl, 1, none⟩ = some (.slice Bl pb.vols.length bl) := Vl.out.c1
  have el2 : w14.cell? ⟨bkl, 2, none⟩ = some (.slice Cl os.length cl) := Vl.out.c2
  have el3 : w14.cell? ⟨bkl, 3, none⟩ = some (.int .i64 (sn : Int)) := Vl.out.c3
  have eyl := Vl.out.lt
  have ex0 : w14.cell? ⟨bkx, 0, none⟩ = some (.slice Ax r.slots.length ax) := Vx.out.c0
  have ex1 : w14.cell? ⟨bkx, 1, none⟩ = some (.slice Bx r.vols.length bx) := Vx.out.c1
  have ex2 : w14.cell? ⟨bkx, 2, none⟩ = some (.slice Cx dk.length cx) := Vx.out.c2
  have ex3 : w14.cell? ⟨bkx, 3, none⟩ = some (.int .i64 0) := Vx.out.c3
  have eyx := Vx.out.lt
  go_wp2
  all_goals
    go_ret
    exact ⟨rfl, KW.out⟩
end Go.Proofs.YtccllgpaafgjaaaGreat

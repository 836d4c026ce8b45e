/- The law FnExactLogOk: its body walked. -/
import Derived.Test.YtccllgpaafgjaaaGreatT1
import Derived.Test.YtccllgpaafgjaaaGreatT2
import Derived.Test.YtccllgpaafgjaaaGreatT3
import Derived.Test.YtccllgpaafgjaaaGreatT4
import Derived.Test.YtccllgpaafgjaaaGreatT5
import Derived.Test.YtccllgpaafgjaaaGreatT6
import Derived.Test.YtccllgpaafgjaaaGreatT7
import Derived.Test.YtccllgpaafgjaaaGreatT8
namespace Go.Proofs.YtccllgpaafgjaaaGreat
open Go.RowKit Go.Proofs.YtccllgpaafgjaaaGreatW.PrintWords Go.Proofs.YtccllgpaafgjaaaGreatW.PrintLast
set_option linter.unusedVariables false
set_option linter.unusedSimpArgs false

set_option maxHeartbeats 16000000 in
set_option maxRecDepth 10000 in
theorem lawFnExactLogOk_c {w : World} {Al Bl Cl : Option Addr} {al bl cl : Nat} {l : Log} (h : LogIn w Al Bl Cl al bl cl l) (hS : RawS l.base.slots) (hV : RawV l.base.vols) (hO : RawOs l.ops) :
    Calls Tryz.prog 14 #[.agg #[.slice Al l.base.slots.length al, .slice Bl l.base.vols.length bl, .slice Cl l.ops.length cl, .int .i64 l.safe]] w (Ret (.bool true) w) := by
  have HI := Lib.hid h
  have HRS := Lib.hid hS
  have HRV := Lib.hid hV
  have HRO := Lib.hid hO
  obtain ⟨ok, hok⟩ : ∃ ok, logOk l = ok := ⟨_, rfl⟩
  have HOK := Lib.hid hok
  clear h hS hV hO hok
  go_enter Tryz.func14, Tryz.ntmps14
  go_wp2_with fail
  have hB : LVarL (w.alloc (.cells #[.slice Al l.base.slots.length al, .slice Bl l.base.vols.length bl, .slice Cl l.ops.length cl, .int .i64 l.safe] 84)) w.heap.size Al Bl Cl al bl cl l := ⟨Blk.new _ _ _, HI.out.alloc _⟩
  have hb : Bel w (w.alloc (.cells #[.slice Al l.base.slots.length al, .slice Bl l.base.vols.length bl, .slice Cl l.ops.length cl, .int .i64 l.safe] 84)) := bel_alloc (Below.refl _ _) _
  generalize w.alloc (.cells #[.slice Al l.base.slots.length al, .slice Bl l.base.vols.length bl, .slice Cl l.ops.length cl, .int .i64 l.safe] 84) = W0 at hB hb ⊢
  obtain ⟨bkl, hbk⟩ : ∃ b, w.heap.size = b := ⟨_, rfl⟩
  rw [hbk] at hB ⊢
  clear hbk
  refine (szLog_c (left := 1048576) hB.inn HRS.out HRV.out HRO.out (by omega) (by omega)).mono ?_
  rintro e w1 ⟨r, rfl, hb1, hr, hr1⟩
  have Vl := Lib.hid (hB.bel hb1)
  have KW := Lib.hid (hb.tr hb1)
  have HRR := Lib.hid hr
  clear hB hb hb1 hr
  by_cases hrn : r < 0
  · go_wp2
    go_ret
    exact ⟨rfl, KW.out⟩
  have HSl := Lib.hid (HRR.out (by omega)).1
  clear HRR hr1
  have el0 := Vl.out.c0
  have el1 := Vl.out.c1
  have el2 := Vl.out.c2
  have el3 := Vl.out.c3
  have eyl := Vl.out.lt
  go_wp2_with fail
  clear el0 el1 el2 el3 eyl
  refine ((toLog_c Vl.out.inn HSl.out).mono fun _ _ h => h.new).mono ?_
  rintro e w2 ⟨Att, Btt, Ctt, att, btt, ctt, rfl, hin, hb⟩
  replace Vl := Lib.hid (Vl.out.bel hb)
  replace KW := Lib.hid (KW.out.tr hb)
  have Jtt := Lib.hid hin
  clear hin hb
  have el0 := Vl.out.c0
  have el1 := Vl.out.c1
  have el2 := Vl.out.c2
  have el3 := Vl.out.c3
  have eyl := Vl.out.lt
  go_wp2_with fail
  clear el0 el1 el2 el3 eyl
  refine ((HOK.out ▸ specLogOk_c Jtt.out HSl.out : Calls Tryz.prog 34 #[.agg #[.slice Att l.base.slots.length att, .slice Btt l.base.vols.length btt, .slice Ctt l.ops.length ctt, .int .i64 l.safe]] _ (Ret (.bool ok) _))).mono ?_
  rintro e w3 ⟨rfl, hb⟩
  replace Vl := Lib.hid (Vl.out.bel hb)
  replace Jtt := Lib.hid (Jtt.out.bel hb)
  replace KW := Lib.hid (KW.out.tr hb)
  clear hb
  have el0 := Vl.out.c0
  have el1 := Vl.out.c1
  have el2 := Vl.out.c2
  have el3 := Vl.out.c3
  have eyl := Vl.out.lt
  go_wp2_with fail
  clear el0 el1 el2 el3 eyl
  refine ((toLog_c Vl.out.inn HSl.out).mono fun _ _ h => h.new).mono ?_
  rintro e w4 ⟨Ax, Bx, Cx, ax, bx, cx, rfl, hin, hb⟩
  replace Vl := Lib.hid (Vl.out.bel hb)
  replace KW := Lib.hid (KW.out.tr hb)
  have Jx := Lib.hid hin
  clear hin hb
  have el0 := Vl.out.c0
  have el1 := Vl.out.c1
  have el2 := Vl.out.c2
  have el3 := Vl.out.c3
  have eyl := Vl.out.lt
  go_wp2_with fail
  clear el0 el1 el2 el3 eyl
  have hnew := LVar.new Jx.out
  have hb : Bel w4 (w4.alloc (.cells #[.slice Ax l.base.slots.length ax, .slice Bx l.base.vols.length bx, .slice Cx l.ops.length cx, .int .i64 l.safe] 44)) := bel_alloc (Below.refl _ _) _
  generalize w4.alloc (.cells #[.slice Ax l.base.slots.length ax, .slice Bx l.base.vols.length bx, .slice Cx l.ops.length cx, .int .i64 l.safe] 44) = W5 at hnew hb ⊢
  replace Vl := Lib.hid (Vl.out.bel hb)
  replace Jx := Lib.hid (Jx.out.bel hb)
  replace KW := Lib.hid (KW.out.tr hb)
  obtain ⟨bkx, hbn⟩ : ∃ b, w4.heap.size = b := ⟨_, rfl⟩
  rw [hbn] at hnew ⊢
  have Vx := Lib.hid hnew
  clear hnew hb hbn Jx
  refine ((HOK.out ▸ implLogOk_c Vx.out.inn HSl.out : Calls Tryz.prog 37 #[.agg #[.slice Ax l.base.slots.length ax, .slice Bx l.base.vols.length bx, .slice Cx l.ops.length cx, .int .i64 l.safe]] _ (Ret (.bool ok) _))).mono ?_
  rintro e w6 ⟨rfl, hb⟩
  replace Vl := Lib.hid (Vl.out.bel hb)
  replace Vx := Lib.hid (Vx.out.bel hb)
  replace KW := Lib.hid (KW.out.tr hb)
  clear hb
  have hbb : (ok != ok) = false := by simp
  have el0 := Vl.out.c0
  have el1 := Vl.out.c1
  have el2 := Vl.out.c2
  have el3 := Vl.out.c3
  have eyl := Vl.out.lt
  have ex0 := Vx.out.c0
  have ex1 := Vx.out.c1
  have ex2 := Vx.out.c2
  have ex3 := Vx.out.c3
  have eyx := Vx.out.lt
  go_wp2
  clear el0 el1 el2 el3 eyl
  clear ex0 ex1 ex2 ex3 eyx
  have hb : Bel w6 w6.drew := (Below.refl _ _).drew
  replace Vl := Lib.hid (Vl.out.bel hb)
  replace Vx := Lib.hid (Vx.out.bel hb)
  replace KW := Lib.hid (KW.out.tr hb)
  clear hb
  refine start_ (n := 5) (S := fun w' => w'.cell? ⟨bkx, 0, none⟩ = some (.slice Ax l.base.slots.length ax) ∧ w'.cell? ⟨bkx, 1, none⟩ = some (.slice Bx l.base.vols.length bx) ∧ w'.cell? ⟨bkx, 2, none⟩ = some (.slice Cx l.ops.length cx) ∧ w'.cell? ⟨bkx, 3, none⟩ = some (.int .i64 l.safe) ∧ w'.cell? ⟨bkl, 0, none⟩ = some (.slice Al l.base.slots.length al) ∧ w'.cell? ⟨bkl, 1, none⟩ = some (.slice Bl l.base.vols.length bl) ∧ w'.cell? ⟨bkl, 2, none⟩ = some (.slice Cl l.ops.length cl) ∧ w'.cell? ⟨bkl, 3, none⟩ = some (.int .i64 l.safe)) (ds := []) #[bF, bF, bF, bF, bF] (by kernel_rfl) rfl rfl ⟨Vx.out.c0, Vx.out.c1, Vx.out.c2, Vx.out.c3, Vl.out.c0, Vl.out.c1, Vl.out.c2, Vl.out.c3⟩ (fun hHeld => ?_)
  refine take_ (i := 0) (N := some 22) (v := ?_) (a' := ?_) #[bT, bF, bF, bF, bF] rfl rfl (by kernel_rfl) (fun _ _ _ h => h) (Or.inl ⟨by rfl, ?_⟩) hHeld ?_ ?_
  rotate_left
  · rintro w' ⟨s0, s1, s2, s3, s4, s5, s6, s7⟩
    go_simp
    with_reducible rfl
  rotate_left
  · simp only [Act.put, lA, lB, lC, i64_w, i32_w]
    rfl
  refine take_ (i := 1) (N := some 23) (v := ?_) (a' := ?_) #[bT, bT, bF, bF, bF] rfl rfl (by kernel_rfl) (fun _ _ _ h => h) (Or.inl ⟨by rfl, ?_⟩) hHeld ?_ ?_
  rotate_left
  · rintro w' ⟨s0, s1, s2, s3, s4, s5, s6, s7⟩
    go_simp
    with_reducible rfl
  rotate_left
  · simp only [Act.put, lA, lB, lC, i64_w, i32_w]
    rfl
  refine one_ (i := 2) (N := some 24) #[bT, bT, bT, bF, bF] rfl rfl (by kernel_rfl) (by decide) (fun K hK => ?_)
  refine goes_ Tryz.func72 (by kernel_rfl) rfl #[.agg #[.slice Al l.base.slots.length al, .slice Bl l.base.vols.length bl, .slice Cl l.ops.length cl, .int .i64 l.safe]] (by rfl) rfl rfl (by simp only [List.map_toArray, List.map_cons, List.map_nil]; rfl) ?_
  with_reducible refine ((toLog_c Vl.out.inn HSl.out).mono fun _ _ h => h.new).mono ?_
  rintro e w7 ⟨Ayy, Byy, Cyy, ayy, byy, cyy, rfl, hin, hb⟩
  replace Vl := Lib.hid (Vl.out.bel hb)
  replace Vx := Lib.hid (Vx.out.bel hb)
  replace KW := Lib.hid (KW.out.tr hb)
  have Jyy := Lib.hid hin
  clear hin hb
  refine ⟨_, rfl, ?_⟩
  refine hK.out _ _ ⟨Vx.out.c0, Vx.out.c1, Vx.out.c2, Vx.out.c3, Vl.out.c0, Vl.out.c1, Vl.out.c2, Vl.out.c3⟩ (fun hHeld => ?_)
  clear hK K
  refine norm_ (a' := ?_) ?_ ?_
  rotate_left
  · show Act.put _ (some 24) _ = _
    simp only [Act.put, lA, lB, lC, i64_w, i32_w]
    rfl
  refine one_ (i := 3) (N := some 25) #[bT, bT, bT, bT, bF] rfl rfl (by kernel_rfl) (by decide) (fun K hK => ?_)
  refine goes_ Tryz.func73 (by kernel_rfl) rfl #[.agg #[.slice Ax l.base.slots.length ax, .slice Bx l.base.vols.length bx, .slice Cx l.ops.length cx, .int .i64 l.safe], .agg #[.slice Ayy l.base.slots.length ayy, .slice Byy l.base.vols.length byy, .slice Cyy l.ops.length cyy, .int .i64 l.safe]] (by rfl) rfl rfl (by simp only [List.map_toArray, List.map_cons, List.map_nil]; rfl) ?_
  with_reducible refine (eqLog_c Vx.out.inn Jyy.out HSl.out).mono ?_
  rintro e w8 ⟨rfl, hb⟩
  replace Vl := Lib.hid (Vl.out.bel hb)
  replace Vx := Lib.hid (Vx.out.bel hb)
  replace Jyy := Lib.hid (Jyy.out.bel hb)
  replace KW := Lib.hid (KW.out.tr hb)
  clear hb
  refine ⟨_, rfl, ?_⟩
  refine hK.out _ _ ⟨Vx.out.c0, Vx.out.c1, Vx.out.c2, Vx.out.c3, Vl.out.c0, Vl.out.c1, Vl.out.c2, Vl.out.c3⟩ (fun hHeld => ?_)
  clear hK K
  refine norm_ (a' := ?_) ?_ ?_
  rotate_left
  · show Act.put _ (some 25) _ = _
    simp only [Act.put, lA, lB, lC, i64_w, i32_w]
    rfl
  refine pure_ (i := 4) (N := some 26) (v := ?_) (a' := ?_) #[bT, bT, bT, bT, bT] rfl rfl (by kernel_rfl) (fun _ _ _ h => h) (Or.inl ⟨by rfl, ?_⟩) ?_ ?_
  rotate_left
  · intro w'
    go_simp
    with_reducible rfl
  rotate_left
  · simp only [Act.put, lA, lB, lC, i64_w, i32_w]
    rfl
  refine done_ (by kernel_rfl) ?_
  have el0 := Vl.out.c0
  have el1 := Vl.out.c1
  have el2 := Vl.out.c2
  have el3 := Vl.out.c3
  have eyl := Vl.out.lt
  have ex0 := Vx.out.c0
  have ex1 := Vx.out.c1
  have ex2 := Vx.out.c2
  have ex3 := Vx.out.c3
  have eyx := Vx.out.lt
  go_wp2
  all_goals
    go_ret
    exact ⟨rfl, KW.out⟩
end Go.Proofs.YtccllgpaafgjaaaGreat

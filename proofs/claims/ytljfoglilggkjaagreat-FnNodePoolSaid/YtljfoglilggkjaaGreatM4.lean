/- Contracts of the program's and the reference's functions, and the plain laws behind them: part 4 of 13. -/
import Derived.Test.YtljfoglilggkjaaGreatM1
import Derived.RegionTactic
import Derived.ChangeAlike
set_option linter.unusedVariables false
set_option linter.unusedSimpArgs false
set_option maxHeartbeats 64000000
set_option maxRecDepth 10000
namespace Go.Proofs.YtljfoglilggkjaaGreat
open Go.RowKit Go.Proofs.YtljfoglilggkjaaGreatW.PrintWords
theorem implOpOk_c (o : Op) (hs : SmallO o) (w : World) : Calls Tryz.prog 82 #[.agg #[.int .i64 o.kind, .string o.name, .string o.dest, .int .i64 o.n, .string o.text]] w (Ret (.bool (opOk o)) w) := by
 have ht := max_of hs.text
 obtain ⟨kd, nm, ds, n, tx⟩ := o
 simp only at ht
 have HT := Lib.hid ht
 clear ht hs
 by_cases h1 : kd = 1
 ·subst h1
  cases h0 : isNm nm
  all_goals cases hx2 : inR n 1 6
  all_goals
   have HG := Lib.hid (show opOk ⟨1, nm, ds, n, tx⟩ = _ by unfold opOk opRest emp; simp only [if_true, h0, hx2]; rfl)
   go_enter Tryz.func82, Tryz.ntmps82
   go_wp2_with (first | (go_at_call 92; refine (isName_c _ _).mono ?_; rintro e w' ⟨rfl, rfl⟩) | (go_at_call 81; refine (within_c _ _ _ _).mono ?_; rintro e w' ⟨rfl, rfl⟩) | (go_at_call 89; refine (implTextOk_c tx _ HT.out).mono ?_; rintro e w' ⟨rfl, rfl⟩))
   all_goals
    go_ret
    exact ⟨ret_bool (by rw [HG.out]; simp_all), bel_alloc (bel_alloc (Below.refl _ _) _) _⟩
 by_cases h2 : kd = 2
 ·subst h2
  cases h0 : isNm nm
  all_goals cases hx2 : inR n 0 5
  all_goals cases hx3 : tOk tx
  all_goals
   have HG := Lib.hid (show opOk ⟨2, nm, ds, n, tx⟩ = _ by unfold opOk opRest emp; simp only [show ¬ ((2 : Int) = 1) by decide, if_false, if_true, h0, hx2, hx3]; rfl)
   go_enter Tryz.func82, Tryz.ntmps82
   go_wp2
   go_region
   all_goals
    go_wp2_with (first | (go_at_call 92; refine (isName_c _ _).mono ?_; rintro e w' ⟨rfl, rfl⟩) | (go_at_call 81; refine (within_c _ _ _ _).mono ?_; rintro e w' ⟨rfl, rfl⟩) | (go_at_call 89; refine (implTextOk_c tx _ HT.out).mono ?_; rintro e w' ⟨rfl, rfl⟩))
    all_goals
     go_ret
     exact ⟨ret_bool (by rw [HG.out]; simp_all), (bel_alloc (bel_alloc (Below.refl _ _) _) _).drew⟩
 by_cases h3 : kd = 3
 ·subst h3
  cases h0 : isNm nm
  all_goals cases hx1 : isNm ds
  all_goals
   have HG := Lib.hid (show opOk ⟨3, nm, ds, n, tx⟩ = _ by unfold opOk opRest emp; simp only [show ¬ ((3 : Int) = 1) by decide, show ¬ ((3 : Int) = 2) by decide, if_false, if_true, h0, hx1]; rfl)
   go_enter Tryz.func82, Tryz.ntmps82
   go_wp2_with (first | (go_at_call 92; refine (isName_c _ _).mono ?_; rintro e w' ⟨rfl, rfl⟩) | (go_at_call 81; refine (within_c _ _ _ _).mono ?_; rintro e w' ⟨rfl, rfl⟩) | (go_at_call 89; refine (implTextOk_c tx _ HT.out).mono ?_; rintro e w' ⟨rfl, rfl⟩))
   all_goals
    go_ret
    exact ⟨ret_bool (by rw [HG.out]; simp_all), bel_alloc (bel_alloc (Below.refl _ _) _) _⟩
 by_cases h4 : kd = 4
 ·subst h4
  cases h0 : isNm nm
  all_goals
   have HG := Lib.hid (show opOk ⟨4, nm, ds, n, tx⟩ = _ by unfold opOk opRest emp; simp only [show ¬ ((4 : Int) = 1) by decide, show ¬ ((4 : Int) = 2) by decide, show ¬ ((4 : Int) = 3) by decide, if_false, if_true, h0]; rfl)
   go_enter Tryz.func82, Tryz.ntmps82
   go_wp2_with (first | (go_at_call 92; refine (isName_c _ _).mono ?_; rintro e w' ⟨rfl, rfl⟩) | (go_at_call 81; refine (within_c _ _ _ _).mono ?_; rintro e w' ⟨rfl, rfl⟩) | (go_at_call 89; refine (implTextOk_c tx _ HT.out).mono ?_; rintro e w' ⟨rfl, rfl⟩))
   all_goals
    go_ret
    exact ⟨ret_bool (by rw [HG.out]; simp_all), bel_alloc (bel_alloc (Below.refl _ _) _) _⟩
 have HG := Lib.hid (show opOk ⟨kd, nm, ds, n, tx⟩ = false by unfold opOk opRest; simp only [h1, h2, h3, h4, if_false, Bool.and_false])
 go_enter Tryz.func82, Tryz.ntmps82
 go_wp2_with (first | (go_at_call 92; refine (isName_c _ _).mono ?_; rintro e w' ⟨rfl, rfl⟩) | (go_at_call 81; refine (within_c _ _ _ _).mono ?_; rintro e w' ⟨rfl, rfl⟩) | (go_at_call 89; refine (implTextOk_c tx _ HT.out).mono ?_; rintro e w' ⟨rfl, rfl⟩))
 go_ret
 exact ⟨ret_bool HG.out.symm, bel_alloc (bel_alloc (Below.refl _ _) _) _⟩
end Go.Proofs.YtljfoglilggkjaaGreat

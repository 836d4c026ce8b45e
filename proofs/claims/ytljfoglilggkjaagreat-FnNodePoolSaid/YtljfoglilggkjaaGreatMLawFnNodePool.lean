/- The law FnNodePool returns true for every code, and the codes read afterwards as they read before. No condition. -/
import Derived.Test.YtljfoglilggkjaaGreatRows
import Derived.Test.YtljfoglilggkjaaGreatM1
import Derived.Test.YtljfoglilggkjaaGreatM2
import Derived.Test.YtljfoglilggkjaaGreatM3
import Derived.Test.YtljfoglilggkjaaGreatM4
import Derived.Test.YtljfoglilggkjaaGreatM5
import Derived.Test.YtljfoglilggkjaaGreatM6
import Derived.Test.YtljfoglilggkjaaGreatM7
import Derived.Test.YtljfoglilggkjaaGreatM8
import Derived.Test.YtljfoglilggkjaaGreatM9
import Derived.Test.YtljfoglilggkjaaGreatM10
import Derived.Test.YtljfoglilggkjaaGreatM11
import Derived.Test.YtljfoglilggkjaaGreatM12
import Derived.Test.YtljfoglilggkjaaGreatM13
import Derived.Test.YtljfoglilggkjaaGreatMFnNodePool
import Derived.WalkKit
import Derived.ProofKit
import Derived.OpenShut
import Derived.ShutString
import Derived.ChangeOld
import Derived.Below
import Derived.SizedLaws
namespace Go.Proofs.YtljfoglilggkjaaGreat.fnNodePool
open Go.ChangeShapes Go.WideShapes Go.ChangeAt Go.RowKit
open Go.ChangeMaps (open_string shut_string)
set_option linter.unusedVariables false
theorem own : ownKnob Tryz.prog.godebug = none := by kernel_rfl
theorem laidOut : laidOutB Tryz.prog = true := by kernel_rfl
set_option maxRecDepth 100000 in
theorem lifted (os : Os) (started : os.Started) (H : Type) (enc : TypeId × Value → H) :
  ReturnsInHanded {} Tryz.checked os 7 .any (Rows.fnNodePoolSpec.pre6 enc Tryz.prog Tryz.f7 Rows.fnNodePoolRow.domain false) (Rows.fnNodePoolSpec.post enc Tryz.prog Tryz.f7 false true false false) := by
 refine returnsInHanded_of_change_sized (C := Tryz.checked) own started (by kernel_rfl) Tryz.func7
  (ChangeSpec.witness6 (enc := enc) (C := Tryz.checked) false ⟨#[], #[.slice none 0 0], []⟩ 8 (by kernel_rfl) (by kernel_rfl) (by kernel_rfl) (by kernel_rfl)) ?_
 intro W base args ds gs before hval0 hW hcnd hsz0 _
 have hsz : (DataW.weightsEach Tryz.prog (Tryz.f7.params.toList ++ Rows.fnNodePoolSpec.plain.varTypes Tryz.prog) (ds ++ gs)).all (· ≤ reachBytes) = true := hsz0
 have hval : ∀ (j : Nat) t v, Tryz.f7.params[j]? = some t → args[j]? = some v → Value.okWide Tryz.prog W .any base t v := hval0
 have hW' := hW
 obtain ⟨p, q, hA0, hV, rfl, hfz, hnd⟩ := hW
 have hA : DataW.TrodAll enc Tryz.prog W 0 (fun _ => true) true Tryz.f7.params.toList args.toList ds p := hA0
 rw [Tryz.params7] at hA hval hsz
 obtain ⟨v0, vs0, d0, ds0, p0, q0, hargs, rfl, rfl, h0, r0⟩ := trodAll_cons hA
 obtain ⟨rfl, rfl, rfl⟩ := trodAll_nil r0
 obtain rfl : args = #[v0] := by cases args; simp_all
 obtain ⟨rfl, rfl⟩ := trodVars_none hV
 have k0 := h0
 have lt0 : ∀ x ∈ p0, x.block < W.heap.size := by obtain ⟨m, hm⟩ := k0; exact DataW.trod_lt m _ _ _ hm
 obtain ⟨A0, n0, c0, l0, rfl, x0, y0⟩ := open_bytes (hval 0 22 v0 rfl rfl) h0
 clear hA0 hval0 hsz0 hsz
 refine (lawFnNodePool_c x0 y0).mono fun e W' ⟨he, bel⟩ => ?_
 subst he
 exact ⟨_, rfl, _, _, _, [], _, [], hW', trodAll_mk1 (shut_bool Tryz.underlying4 _), (trodAll_cons_mk (Below.trod laidOut (by kernel_rfl) (of_decide_eq_true (by kernel_rfl)) k0 bel lt0) trodAll_mk0), rfl, bel.frame _, fun h => by cases h⟩
theorem c0 : (Rows.fnNodePoolRow.wf (OpenSpec.ofChange Rows.fnNodePoolSpec)) = true := by kernel_rfl
theorem c3 : (Tryz.f7.params.all (Tryz.prog.readableRec ·)) = true := by kernel_rfl
theorem c4 : (namedTie Tryz.prog Rows.fnNodePoolRow.named Rows.fnNodePoolSpec.vars) = true := by kernel_rfl
theorem c5 : (Rows.fnNodePoolRow.stops == []) = true := by kernel_rfl
theorem c7 : (Rows.fnNodePoolRow.knobs == []) = true := by kernel_rfl
theorem c9 : (Rows.fnNodePoolRow.inPlace == Tryz.prog.inPlace 7) = true := by kernel_rfl
theorem c10 : (Rows.fnNodePoolRow.unfollowed == Tryz.prog.unfollowed 7) = true := by kernel_rfl
theorem c11 : (Rows.fnNodePoolRow.recurses == Tryz.prog.recurses 7) = true := by kernel_rfl
theorem c12 : (Rows.fnNodePoolRow.named == Tryz.prog.varsNamed 7) = true := by kernel_rfl
theorem c13 : (Rows.fnNodePoolRow.maps == (Tryz.f7.params.toList ++ Rows.fnNodePoolSpec.plain.varTypes Tryz.prog).any (Tryz.prog.mapsRec ·)) = true := by kernel_rfl
theorem c14 : (Rows.fnNodePoolRow.ifaces == (Tryz.f7.params.toList ++ Rows.fnNodePoolSpec.plain.varTypes Tryz.prog).any (Tryz.prog.ifacesRec ·)) = true := by kernel_rfl
theorem c15 : (Rows.fnNodePoolRow.mapsOut == Tryz.prog.mapsAmong Tryz.f7.resultTypes.toList) = true := by kernel_rfl
theorem c16 : (Rows.fnNodePoolRow.loops == (Tryz.f7.params.toList ++ Rows.fnNodePoolSpec.plain.varTypes Tryz.prog).any (Tryz.prog.loopsFrom ·)) = true := by kernel_rfl
theorem c17 : (Rows.fnNodePoolRow.wideKeys == (Tryz.f7.params.toList ++ Rows.fnNodePoolSpec.plain.varTypes Tryz.prog ++ Tryz.f7.resultTypes.toList).any (Tryz.prog.wideKeysFrom ·)) = true := by kernel_rfl
theorem c18 : (Rows.fnNodePoolSpec.vars.all (Tryz.prog.varReadable ·)) = true := by kernel_rfl
theorem c19 : (Tryz.f7.resultTypes.all (fun t => Tryz.prog.readableRec t && decide (t < Tryz.prog.types.size))) = true := by kernel_rfl
theorem c20 : (Rows.fnNodePoolRow.ifacesOut == Tryz.f7.resultTypes.toList.any (Tryz.prog.ifacesRec ·)) = true := by kernel_rfl
theorem c21 : (Rows.fnNodePoolRow.loopsOut == Tryz.f7.resultTypes.toList.any (Tryz.prog.loopsFrom ·)) = true := by kernel_rfl
theorem c23 : (Rows.fnNodePoolRow.shortTexts.isNone) = true := by kernel_rfl
theorem c28 : (Rows.fnNodePoolRow.kinds == (if Rows.fnNodePoolRow.domain.isEmpty then [] else Tryz.f7.params.toList.map fun t => match Tryz.prog.underlying t with | some (.int k) => some k | _ => none)) = true := by kernel_rfl
theorem c29 : (Rows.fnNodePoolRow.pinned == Rows.fnNodePoolRow.pinnedBy) = true := by kernel_rfl
theorem c30 : (Rows.fnNodePoolRow.veiled == (Tryz.f7.params.toList ++ Rows.fnNodePoolSpec.plain.varTypes Tryz.prog ++ Tryz.f7.resultTypes.toList).any (Tryz.prog.veiledRec ·)) = true := by kernel_rfl
theorem c31 : (Rows.fnNodePoolRow.veiledFits Tryz.prog Tryz.f7.params.toList (Tryz.f7.params.toList ++ Rows.fnNodePoolSpec.plain.varTypes Tryz.prog ++ Tryz.f7.resultTypes.toList)) = true := by kernel_rfl
set_option maxRecDepth 1000000 in
theorem closed : joinedFacts Tryz.prog 7 Tryz.f7 Rows.fnNodePoolSpec Rows.fnNodePoolRow = true := joined_of c0 jo_laid jo_maps c3 c4 c5 jo_stops c7 jo_knobs c9 c10 c11 c12 c13 c14 c15 c16 c17 c18 c19 c20 c21 jo_keys c23 jo_heard jo_enter jo_final jo_make c28 c29 c30 c31
theorem over : Rows.fnNodePoolRow.holds Tryz.pinned (OpenSpec.ofChange Rows.fnNodePoolSpec) :=
 OpenClaim.holds_of_wide 7 Tryz.f7 rfl rfl rfl rfl rfl rfl rfl ⟨rfl, rfl, rfl, rfl, rfl⟩ rfl rfl rfl rfl rfl (by kernel_rfl) Tryz.func7 closed
  (of_decide_eq_true (by kernel_rfl)) (by unfold Func.isWrapper; first | (rw [if_pos (by decide +kernel)]; kernel_rfl) | (rw [if_neg (by decide +kernel)]; exact ⟨rfl, rfl⟩))
  (fun os started H enc _ => lifted os started H enc)
theorem proved : Rows.FnNodePoolSaid := over
#print axioms proved
end Go.Proofs.YtljfoglilggkjaaGreat.fnNodePool
namespace Go.Proofs.YtljfoglilggkjaaGreat
theorem fnNodePool_holds : Rows.FnNodePoolSaid := fnNodePool.proved
end Go.Proofs.YtljfoglilggkjaaGreat

/- The law FnLogFree returns true for every code, and the codes read afterwards as they read before. No condition. -/
import Derived.Test.YtccllgpaafgjaaaGreatRows
import Derived.Test.YtccllgpaafgjaaaGreatV1
import Derived.Test.YtccllgpaafgjaaaGreatV2
import Derived.Test.YtccllgpaafgjaaaGreatV3
import Derived.Test.YtccllgpaafgjaaaGreatV4
import Derived.Test.YtccllgpaafgjaaaGreatV5
import Derived.Test.YtccllgpaafgjaaaGreatV6
import Derived.Test.YtccllgpaafgjaaaGreatV7
import Derived.Test.YtccllgpaafgjaaaGreatV8
import Derived.Test.YtccllgpaafgjaaaGreatV9
import Derived.Test.YtccllgpaafgjaaaGreatV10
import Derived.Test.YtccllgpaafgjaaaGreatV11
import Derived.Test.YtccllgpaafgjaaaGreatV12
import Derived.Test.YtccllgpaafgjaaaGreatVFnLogFree
import Derived.WalkKit
import Derived.ProofKit
import Derived.OpenShut
import Derived.ShutString
import Derived.ChangeOld
import Derived.Below
import Derived.SizedLaws
namespace Go.Proofs.YtccllgpaafgjaaaGreat.fnLogFree
open Go.ChangeShapes Go.WideShapes Go.ChangeAt Go.RowKit
open Go.ChangeMaps (open_string shut_string)
set_option linter.unusedVariables false
theorem own : ownKnob Tryz.prog.godebug = none := by kernel_rfl
theorem laidOut : laidOutB Tryz.prog = true := by kernel_rfl
set_option maxRecDepth 100000 in
theorem lifted (os : Os) (started : os.Started) (H : Type) (enc : TypeId × Value → H) :
    ReturnsInHanded {} Tryz.checked os 10 .any (Rows.fnLogFreeSpec.pre6 enc Tryz.prog Tryz.f10 Rows.fnLogFreeRow.domain false) (Rows.fnLogFreeSpec.post enc Tryz.prog Tryz.f10 false true false false) := by
  refine returnsInHanded_of_change_sized (C := Tryz.checked) own started (by kernel_rfl) Tryz.func10
    (ChangeSpec.witness6 (enc := enc) (C := Tryz.checked) false ⟨#[], #[.slice none 0 0], []⟩ 8 (by kernel_rfl) (by kernel_rfl) (by kernel_rfl) (by kernel_rfl)) ?_
  intro W base args ds gs before hval0 hW hcnd hsz0 _
  have hsz : (DataW.weightsEach Tryz.prog (Tryz.f10.params.toList ++ Rows.fnLogFreeSpec.plain.varTypes Tryz.prog) (ds ++ gs)).all (· ≤ reachBytes) = true := hsz0
  have hval : ∀ (j : Nat) t v, Tryz.f10.params[j]? = some t → args[j]? = some v → Value.okWide Tryz.prog W .any base t v := hval0
  have hW' := hW
  obtain ⟨p, q, hA0, hV, rfl, hfz, hnd⟩ := hW
  have hA : DataW.TrodAll enc Tryz.prog W 0 (fun _ => true) true Tryz.f10.params.toList args.toList ds p := hA0
  rw [Tryz.params10] at hA hval hsz
  obtain ⟨v0, vs0, d0, ds0, p0, q0, hargs, rfl, rfl, h0, r0⟩ := trodAll_cons hA
  obtain ⟨rfl, rfl, rfl⟩ := trodAll_nil r0
  obtain rfl : args = #[v0] := by cases args; simp_all
  obtain ⟨rfl, rfl⟩ := trodVars_none hV
  have k0 := h0
  have lt0 : ∀ x ∈ p0, x.block < W.heap.size := by obtain ⟨m, hm⟩ := k0; exact DataW.trod_lt m _ _ _ hm
  obtain ⟨A0, n0, c0, l0, rfl, x0, y0⟩ := open_bytes (hval 0 22 v0 rfl rfl) h0
  clear hA0 hval0 hsz0 hsz
  refine (lawFnLogFree_c x0 y0).mono fun e W' ⟨he, bel⟩ => ?_
  subst he
  exact ⟨_, rfl, _, _, _, [], _, [], hW', trodAll_mk1 (shut_bool Tryz.underlying4 _), (trodAll_cons_mk (Below.trod laidOut (by kernel_rfl) (of_decide_eq_true (by kernel_rfl)) k0 bel lt0) trodAll_mk0), rfl, bel.frame _, fun h => by cases h⟩
theorem c0 : (Rows.fnLogFreeRow.wf (OpenSpec.ofChange Rows.fnLogFreeSpec)) = true := by kernel_rfl
theorem c3 : (Tryz.f10.params.all (Tryz.prog.readableRec ·)) = true := by kernel_rfl
theorem c4 : (namedTie Tryz.prog Rows.fnLogFreeRow.named Rows.fnLogFreeSpec.vars) = true := by kernel_rfl
theorem c5 : (Rows.fnLogFreeRow.stops == []) = true := by kernel_rfl
theorem c7 : (Rows.fnLogFreeRow.knobs == []) = true := by kernel_rfl
theorem c9 : (Rows.fnLogFreeRow.inPlace == Tryz.prog.inPlace 10) = true := by kernel_rfl
theorem c10 : (Rows.fnLogFreeRow.unfollowed == Tryz.prog.unfollowed 10) = true := by kernel_rfl
theorem c11 : (Rows.fnLogFreeRow.recurses == Tryz.prog.recurses 10) = true := by kernel_rfl
theorem c12 : (Rows.fnLogFreeRow.named == Tryz.prog.varsNamed 10) = true := by kernel_rfl
theorem c13 : (Rows.fnLogFreeRow.maps == (Tryz.f10.params.toList ++ Rows.fnLogFreeSpec.plain.varTypes Tryz.prog).any (Tryz.prog.mapsRec ·)) = true := by kernel_rfl
theorem c14 : (Rows.fnLogFreeRow.ifaces == (Tryz.f10.params.toList ++ Rows.fnLogFreeSpec.plain.varTypes Tryz.prog).any (Tryz.prog.ifacesRec ·)) = true := by kernel_rfl
theorem c15 : (Rows.fnLogFreeRow.mapsOut == Tryz.prog.mapsAmong Tryz.f10.resultTypes.toList) = true := by kernel_rfl
theorem c16 : (Rows.fnLogFreeRow.loops == (Tryz.f10.params.toList ++ Rows.fnLogFreeSpec.plain.varTypes Tryz.prog).any (Tryz.prog.loopsFrom ·)) = true := by kernel_rfl
theorem c17 : (Rows.fnLogFreeRow.wideKeys == (Tryz.f10.params.toList ++ Rows.fnLogFreeSpec.plain.varTypes Tryz.prog ++ Tryz.f10.resultTypes.toList).any (Tryz.prog.wideKeysFrom ·)) = true := by kernel_rfl
theorem c18 : (Rows.fnLogFreeSpec.vars.all (Tryz.prog.varReadable ·)) = true := by kernel_rfl
theorem c19 : (Tryz.f10.resultTypes.all (fun t => Tryz.prog.readableRec t && decide (t < Tryz.prog.types.size))) = true := by kernel_rfl
theorem c20 : (Rows.fnLogFreeRow.ifacesOut == Tryz.f10.resultTypes.toList.any (Tryz.prog.ifacesRec ·)) = true := by kernel_rfl
theorem c21 : (Rows.fnLogFreeRow.loopsOut == Tryz.f10.resultTypes.toList.any (Tryz.prog.loopsFrom ·)) = true := by kernel_rfl
theorem c23 : (Rows.fnLogFreeRow.shortTexts.isNone) = true := by kernel_rfl
theorem c28 : (Rows.fnLogFreeRow.kinds == (if Rows.fnLogFreeRow.domain.isEmpty then [] else Tryz.f10.params.toList.map fun t => match Tryz.prog.underlying t with | some (.int k) => some k | _ => none)) = true := by kernel_rfl
theorem c29 : (Rows.fnLogFreeRow.pinned == Rows.fnLogFreeRow.pinnedBy) = true := by kernel_rfl
theorem c30 : (Rows.fnLogFreeRow.veiled == (Tryz.f10.params.toList ++ Rows.fnLogFreeSpec.plain.varTypes Tryz.prog ++ Tryz.f10.resultTypes.toList).any (Tryz.prog.veiledRec ·)) = true := by kernel_rfl
theorem c31 : (Rows.fnLogFreeRow.veiledFits Tryz.prog Tryz.f10.params.toList (Tryz.f10.params.toList ++ Rows.fnLogFreeSpec.plain.varTypes Tryz.prog ++ Tryz.f10.resultTypes.toList)) = true := by kernel_rfl
set_option maxRecDepth 1000000 in
theorem closed : joinedFacts Tryz.prog 10 Tryz.f10 Rows.fnLogFreeSpec Rows.fnLogFreeRow = true := joined_of c0 jo_laid jo_maps c3 c4 c5 jo_stops c7 jo_knobs c9 c10 c11 c12 c13 c14 c15 c16 c17 c18 c19 c20 c21 jo_keys c23 jo_heard jo_enter jo_final jo_make c28 c29 c30 c31
theorem over : Rows.fnLogFreeRow.holds Tryz.pinned (OpenSpec.ofChange Rows.fnLogFreeSpec) :=
  OpenClaim.holds_of_wide 10 Tryz.f10 rfl rfl rfl rfl rfl rfl rfl ⟨rfl, rfl, rfl, rfl, rfl⟩ rfl rfl rfl rfl rfl (by kernel_rfl) Tryz.func10 closed
    (of_decide_eq_true (by kernel_rfl)) (by unfold Func.isWrapper; first | (rw [if_pos (by decide +kernel)]; kernel_rfl) | (rw [if_neg (by decide +kernel)]; exact ⟨rfl, rfl⟩))
    (fun os started H enc _ => lifted os started H enc)
theorem proved : Rows.FnLogFreeSaid := over
#print axioms proved
end Go.Proofs.YtccllgpaafgjaaaGreat.fnLogFree
namespace Go.Proofs.YtccllgpaafgjaaaGreat
/-- The row, under a short name, for the claim. -/
theorem fnLogFree_holds : Rows.FnLogFreeSaid := fnLogFree.proved
end Go.Proofs.YtccllgpaafgjaaaGreat

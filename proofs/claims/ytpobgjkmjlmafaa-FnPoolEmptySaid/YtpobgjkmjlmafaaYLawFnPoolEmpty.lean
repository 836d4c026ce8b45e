/- The law FnPoolEmpty returns true for every code, and the codes read afterwards as they read before. No condition. -/
import Derived.Test.YtpobgjkmjlmafaaRows
import Derived.Test.YtpobgjkmjlmafaaY5
import Derived.Test.YtpobgjkmjlmafaaYFnPoolEmpty
import Derived.WalkKit
import Derived.ProofKit
import Derived.OpenShut
import Derived.ShutString
import Derived.ChangeOld
import Derived.Below
import Derived.SizedLaws
namespace Go.Proofs.Ytpobgjkmjlmafaa.fnPoolEmpty
open Go.ChangeShapes Go.WideShapes Go.ChangeAt Go.RowKit
open Go.ChangeMaps (open_string shut_string)
set_option linter.unusedVariables false
theorem own : ownKnob Try.prog.godebug = none := by kernel_rfl
theorem laidOut : laidOutB Try.prog = true := by kernel_rfl
set_option maxRecDepth 100000 in
theorem lifted (os : Os) (started : os.Started) (H : Type) (enc : TypeId × Value → H) :
    ReturnsInHanded {} Try.checked os 4 .any (Rows.fnPoolEmptySpec.pre6 enc Try.prog Try.f4 Rows.fnPoolEmptyRow.domain false) (Rows.fnPoolEmptySpec.post enc Try.prog Try.f4 false true false false) := by
  refine returnsInHanded_of_change_sized (C := Try.checked) own started (by kernel_rfl) Try.func4
    (ChangeSpec.witness6 (enc := enc) (C := Try.checked) false ⟨#[], #[.slice none 0 0], []⟩ 8 (by kernel_rfl) (by kernel_rfl) (by kernel_rfl) (by kernel_rfl)) ?_
  intro W base args ds gs before hval0 hW hcnd hsz0 _
  have hsz : (DataW.weightsEach Try.prog (Try.f4.params.toList ++ Rows.fnPoolEmptySpec.plain.varTypes Try.prog) (ds ++ gs)).all (· ≤ reachBytes) = true := hsz0
  have hval : ∀ (j : Nat) t v, Try.f4.params[j]? = some t → args[j]? = some v → Value.okWide Try.prog W .any base t v := hval0
  have hW' := hW
  obtain ⟨p, q, hA0, hV, rfl, hfz, hnd⟩ := hW
  have hA : DataW.TrodAll enc Try.prog W 0 (fun _ => true) true Try.f4.params.toList args.toList ds p := hA0
  rw [Try.params4] at hA hval hsz
  obtain ⟨v0, vs0, d0, ds0, p0, q0, hargs, rfl, rfl, h0, r0⟩ := trodAll_cons hA
  obtain ⟨rfl, rfl, rfl⟩ := trodAll_nil r0
  obtain rfl : args = #[v0] := by cases args; simp_all
  obtain ⟨rfl, rfl⟩ := trodVars_none hV
  have k0 := h0
  have lt0 : ∀ x ∈ p0, x.block < W.heap.size := by obtain ⟨m, hm⟩ := k0; exact DataW.trod_lt m _ _ _ hm
  obtain ⟨A0, n0, c0, l0, rfl, x0, y0⟩ := open_bytes (hval 0 37 v0 rfl rfl) h0
  clear hA0 hval0 hsz0 hsz
  refine (lawFnPoolEmpty_c x0 y0).mono fun e W' ⟨he, bel⟩ => ?_
  subst he
  exact ⟨_, rfl, _, _, _, [], _, [], hW', trodAll_mk1 (shut_bool Try.underlying4 _), (trodAll_cons_mk (Below.trod laidOut (by kernel_rfl) (of_decide_eq_true (by kernel_rfl)) k0 bel lt0) trodAll_mk0), rfl, bel.frame _, fun h => by cases h⟩
theorem c0 : (Rows.fnPoolEmptyRow.wf (OpenSpec.ofChange Rows.fnPoolEmptySpec)) = true := by kernel_rfl
theorem c3 : (Try.f4.params.all (Try.prog.readableRec ·)) = true := by kernel_rfl
theorem c4 : (namedTie Try.prog Rows.fnPoolEmptyRow.named Rows.fnPoolEmptySpec.vars) = true := by kernel_rfl
theorem c5 : (Rows.fnPoolEmptyRow.stops == []) = true := by kernel_rfl
theorem c7 : (Rows.fnPoolEmptyRow.knobs == []) = true := by kernel_rfl
theorem c9 : (Rows.fnPoolEmptyRow.inPlace == Try.prog.inPlace 4) = true := by kernel_rfl
theorem c10 : (Rows.fnPoolEmptyRow.unfollowed == Try.prog.unfollowed 4) = true := by kernel_rfl
theorem c11 : (Rows.fnPoolEmptyRow.recurses == Try.prog.recurses 4) = true := by kernel_rfl
theorem c12 : (Rows.fnPoolEmptyRow.named == Try.prog.varsNamed 4) = true := by kernel_rfl
theorem c13 : (Rows.fnPoolEmptyRow.maps == (Try.f4.params.toList ++ Rows.fnPoolEmptySpec.plain.varTypes Try.prog).any (Try.prog.mapsRec ·)) = true := by kernel_rfl
theorem c14 : (Rows.fnPoolEmptyRow.ifaces == (Try.f4.params.toList ++ Rows.fnPoolEmptySpec.plain.varTypes Try.prog).any (Try.prog.ifacesRec ·)) = true := by kernel_rfl
theorem c15 : (Rows.fnPoolEmptyRow.mapsOut == Try.prog.mapsAmong Try.f4.resultTypes.toList) = true := by kernel_rfl
theorem c16 : (Rows.fnPoolEmptyRow.loops == (Try.f4.params.toList ++ Rows.fnPoolEmptySpec.plain.varTypes Try.prog).any (Try.prog.loopsFrom ·)) = true := by kernel_rfl
theorem c17 : (Rows.fnPoolEmptyRow.wideKeys == (Try.f4.params.toList ++ Rows.fnPoolEmptySpec.plain.varTypes Try.prog ++ Try.f4.resultTypes.toList).any (Try.prog.wideKeysFrom ·)) = true := by kernel_rfl
theorem c18 : (Rows.fnPoolEmptySpec.vars.all (Try.prog.varReadable ·)) = true := by kernel_rfl
theorem c19 : (Try.f4.resultTypes.all (fun t => Try.prog.readableRec t && decide (t < Try.prog.types.size))) = true := by kernel_rfl
theorem c20 : (Rows.fnPoolEmptyRow.ifacesOut == Try.f4.resultTypes.toList.any (Try.prog.ifacesRec ·)) = true := by kernel_rfl
theorem c21 : (Rows.fnPoolEmptyRow.loopsOut == Try.f4.resultTypes.toList.any (Try.prog.loopsFrom ·)) = true := by kernel_rfl
theorem c23 : (Rows.fnPoolEmptyRow.shortTexts.isNone) = true := by kernel_rfl
theorem c28 : (Rows.fnPoolEmptyRow.kinds == (if Rows.fnPoolEmptyRow.domain.isEmpty then [] else Try.f4.params.toList.map fun t => match Try.prog.underlying t with | some (.int k) => some k | _ => none)) = true := by kernel_rfl
theorem c29 : (Rows.fnPoolEmptyRow.pinned == Rows.fnPoolEmptyRow.pinnedBy) = true := by kernel_rfl
theorem c30 : (Rows.fnPoolEmptyRow.veiled == (Try.f4.params.toList ++ Rows.fnPoolEmptySpec.plain.varTypes Try.prog ++ Try.f4.resultTypes.toList).any (Try.prog.veiledRec ·)) = true := by kernel_rfl
theorem c31 : (Rows.fnPoolEmptyRow.veiledFits Try.prog Try.f4.params.toList (Try.f4.params.toList ++ Rows.fnPoolEmptySpec.plain.varTypes Try.prog ++ Try.f4.resultTypes.toList)) = true := by kernel_rfl
set_option maxRecDepth 1000000 in
theorem closed : joinedFacts Try.prog 4 Try.f4 Rows.fnPoolEmptySpec Rows.fnPoolEmptyRow = true := joined_of c0 jo_laid jo_maps c3 c4 c5 jo_stops c7 jo_knobs c9 c10 c11 c12 c13 c14 c15 c16 c17 c18 c19 c20 c21 jo_keys c23 jo_heard jo_enter jo_final jo_make c28 c29 c30 c31
theorem over : Rows.fnPoolEmptyRow.holds Try.pinned (OpenSpec.ofChange Rows.fnPoolEmptySpec) :=
  OpenClaim.holds_of_wide 4 Try.f4 rfl rfl rfl rfl rfl rfl rfl ⟨rfl, rfl, rfl, rfl, rfl⟩ rfl rfl rfl rfl rfl (by kernel_rfl) Try.func4 closed
    (of_decide_eq_true (by kernel_rfl)) (by unfold Func.isWrapper; first | (rw [if_pos (by decide +kernel)]; kernel_rfl) | (rw [if_neg (by decide +kernel)]; exact ⟨rfl, rfl⟩))
    (fun os started H enc _ => lifted os started H enc)
theorem proved : Rows.FnPoolEmptySaid := over
#print axioms proved
end Go.Proofs.Ytpobgjkmjlmafaa.fnPoolEmpty
namespace Go.Proofs.Ytpobgjkmjlmafaa
/-- The row, under a short name, for the claim. -/
theorem fnPoolEmpty_holds : Rows.FnPoolEmptySaid := fnPoolEmpty.proved
end Go.Proofs.Ytpobgjkmjlmafaa

/- The program's PoolGone and the reference's return the same for every pool and every name, leave the argument as it was and share no memory with it or with another call. No condition. -/
import Derived.Test.YtpobgjkmjlmafaaRows
import Derived.Test.YtpobgjkmjlmafaaJo
import Derived.Test.YtpobgjkmjlmafaaEb
import Derived.Test.YtpobgjkmjlmafaaOa
import Derived.WalkKit
import Derived.ProofKit
import Derived.OpenShut
import Derived.ShutString
import Derived.ChangeOld
import Derived.Below
import Derived.SizedLaws
namespace Go.Proofs.Ytpobgjkmjlmafaa.fnExactPoolGone
open Go.ChangeShapes Go.WideShapes Go.ChangeAt Go.RowKit
open Go.ChangeMaps (open_string shut_string)
set_option linter.unusedVariables false
theorem own : ownKnob Try.prog.godebug = none := by kernel_rfl
theorem laidOut : laidOutB Try.prog = true := by kernel_rfl
set_option maxRecDepth 100000 in
theorem lifted (os : Os) (started : os.Started) (H : Type) (enc : TypeId × Value → H) :
    ReturnsInHanded {} Try.checked os 3 .any (Rows.fnExactPoolGoneSpec.pre6 enc Try.prog Try.f3 Rows.fnExactPoolGoneRow.domain false) (Rows.fnExactPoolGoneSpec.post enc Try.prog Try.f3 false true false false) := by
  refine returnsInHanded_of_change_sized (C := Try.checked) own started (by kernel_rfl) Try.func3
    (ChangeSpec.witness6 (enc := enc) (C := Try.checked) false ⟨#[], #[.agg #[.slice none 0 0, .slice none 0 0], .string ByteArray.empty], []⟩ 8 (by kernel_rfl) (by kernel_rfl) (by kernel_rfl) (by kernel_rfl)) ?_
  intro W base args ds gs before hval0 hW hcnd hsz0 _
  have hsz : (DataW.weightsEach Try.prog (Try.f3.params.toList ++ Rows.fnExactPoolGoneSpec.plain.varTypes Try.prog) (ds ++ gs)).all (· ≤ reachBytes) = true := hsz0
  have hval : ∀ (j : Nat) t v, Try.f3.params[j]? = some t → args[j]? = some v → Value.okWide Try.prog W .any base t v := hval0
  have hW' := hW
  obtain ⟨p, q, hA0, hV, rfl, hfz, hnd⟩ := hW
  have hA : DataW.TrodAll enc Try.prog W 0 (fun _ => true) true Try.f3.params.toList args.toList ds p := hA0
  rw [Try.params3] at hA hval hsz
  obtain ⟨v0, vs0, d0, ds0, p0, q0, hargs, rfl, rfl, h0, r0⟩ := trodAll_cons hA
  obtain ⟨v1, vs1, d1, ds1, p1, q1, rfl, rfl, rfl, h1, r1⟩ := trodAll_cons r0
  obtain ⟨rfl, rfl, rfl⟩ := trodAll_nil r1
  obtain rfl : args = #[v0, v1] := by cases args; simp_all
  obtain ⟨rfl, rfl⟩ := trodVars_none hV
  have k0 := h0
  have lt0 : ∀ x ∈ p0, x.block < W.heap.size := by obtain ⟨m, hm⟩ := k0; exact DataW.trod_lt m _ _ _ hm
  obtain ⟨A00, A01, c00, c01, l0, rfl, x0, y0, z0⟩ := open_pool (hval 0 25 v0 rfl rfl) h0
  obtain ⟨a1, rfl, rfl, rfl, y1⟩ := open_string Try.underlying9 (hval 1 9 v1 rfl rfl) h1
  have w1 : a1.size ≤ 9223372036854775807 := by have := big_max; omega
  clear hA0 hval0 hsz0 hsz
  refine (lawFnExactPoolGone_c x0 y0 z0 w1).mono fun e W' ⟨he, bel⟩ => ?_
  subst he
  exact ⟨_, rfl, _, _, _, [], _, [], hW', trodAll_mk1 (shut_bool Try.underlying4 _), (trodAll_cons_mk (Below.trod laidOut (by kernel_rfl) (of_decide_eq_true (by kernel_rfl)) k0 bel lt0) (trodAll_cons_mk (shut_string Try.underlying9 y1) trodAll_mk0)), rfl, bel.frame _, fun h => by cases h⟩
theorem c0 : (Rows.fnExactPoolGoneRow.wf (OpenSpec.ofChange Rows.fnExactPoolGoneSpec)) = true := by kernel_rfl
theorem c3 : (Try.f3.params.all (Try.prog.readableRec ·)) = true := by kernel_rfl
theorem c4 : (namedTie Try.prog Rows.fnExactPoolGoneRow.named Rows.fnExactPoolGoneSpec.vars) = true := by kernel_rfl
theorem c5 : (Rows.fnExactPoolGoneRow.stops == []) = true := by kernel_rfl
theorem c7 : (Rows.fnExactPoolGoneRow.knobs == []) = true := by kernel_rfl
theorem c9 : (Rows.fnExactPoolGoneRow.inPlace == Try.prog.inPlace 3) = true := by kernel_rfl
theorem c10 : (Rows.fnExactPoolGoneRow.unfollowed == Try.prog.unfollowed 3) = true := by kernel_rfl
theorem c11 : (Rows.fnExactPoolGoneRow.recurses == Try.prog.recurses 3) = true := by kernel_rfl
theorem c12 : (Rows.fnExactPoolGoneRow.named == Try.prog.varsNamed 3) = true := by kernel_rfl
theorem c13 : (Rows.fnExactPoolGoneRow.maps == (Try.f3.params.toList ++ Rows.fnExactPoolGoneSpec.plain.varTypes Try.prog).any (Try.prog.mapsRec ·)) = true := by kernel_rfl
theorem c14 : (Rows.fnExactPoolGoneRow.ifaces == (Try.f3.params.toList ++ Rows.fnExactPoolGoneSpec.plain.varTypes Try.prog).any (Try.prog.ifacesRec ·)) = true := by kernel_rfl
theorem c15 : (Rows.fnExactPoolGoneRow.mapsOut == Try.prog.mapsAmong Try.f3.resultTypes.toList) = true := by kernel_rfl
theorem c16 : (Rows.fnExactPoolGoneRow.loops == (Try.f3.params.toList ++ Rows.fnExactPoolGoneSpec.plain.varTypes Try.prog).any (Try.prog.loopsFrom ·)) = true := by kernel_rfl
theorem c17 : (Rows.fnExactPoolGoneRow.wideKeys == (Try.f3.params.toList ++ Rows.fnExactPoolGoneSpec.plain.varTypes Try.prog ++ Try.f3.resultTypes.toList).any (Try.prog.wideKeysFrom ·)) = true := by kernel_rfl
theorem c18 : (Rows.fnExactPoolGoneSpec.vars.all (Try.prog.varReadable ·)) = true := by kernel_rfl
theorem c19 : (Try.f3.resultTypes.all (fun t => Try.prog.readableRec t && decide (t < Try.prog.types.size))) = true := by kernel_rfl
theorem c20 : (Rows.fnExactPoolGoneRow.ifacesOut == Try.f3.resultTypes.toList.any (Try.prog.ifacesRec ·)) = true := by kernel_rfl
theorem c21 : (Rows.fnExactPoolGoneRow.loopsOut == Try.f3.resultTypes.toList.any (Try.prog.loopsFrom ·)) = true := by kernel_rfl
theorem c23 : (Rows.fnExactPoolGoneRow.shortTexts.isNone) = true := by kernel_rfl
theorem c28 : (Rows.fnExactPoolGoneRow.kinds == (if Rows.fnExactPoolGoneRow.domain.isEmpty then [] else Try.f3.params.toList.map fun t => match Try.prog.underlying t with | some (.int k) => some k | _ => none)) = true := by kernel_rfl
theorem c29 : (Rows.fnExactPoolGoneRow.pinned == Rows.fnExactPoolGoneRow.pinnedBy) = true := by kernel_rfl
theorem c30 : (Rows.fnExactPoolGoneRow.veiled == (Try.f3.params.toList ++ Rows.fnExactPoolGoneSpec.plain.varTypes Try.prog ++ Try.f3.resultTypes.toList).any (Try.prog.veiledRec ·)) = true := by kernel_rfl
theorem c31 : (Rows.fnExactPoolGoneRow.veiledFits Try.prog Try.f3.params.toList (Try.f3.params.toList ++ Rows.fnExactPoolGoneSpec.plain.varTypes Try.prog ++ Try.f3.resultTypes.toList)) = true := by kernel_rfl
set_option maxRecDepth 1000000 in
theorem closed : joinedFacts Try.prog 3 Try.f3 Rows.fnExactPoolGoneSpec Rows.fnExactPoolGoneRow = true := joined_of c0 jo_laid jo_maps c3 c4 c5 jo_stops c7 jo_knobs c9 c10 c11 c12 c13 c14 c15 c16 c17 c18 c19 c20 c21 jo_keys c23 jo_heard jo_enter jo_final jo_make c28 c29 c30 c31
theorem over : Rows.fnExactPoolGoneRow.holds Try.pinned (OpenSpec.ofChange Rows.fnExactPoolGoneSpec) :=
  OpenClaim.holds_of_wide 3 Try.f3 rfl rfl rfl rfl rfl rfl rfl ⟨rfl, rfl, rfl, rfl, rfl⟩ rfl rfl rfl rfl rfl (by kernel_rfl) Try.func3 closed
    (of_decide_eq_true (by kernel_rfl)) (by unfold Func.isWrapper; first | (rw [if_pos (by decide +kernel)]; kernel_rfl) | (rw [if_neg (by decide +kernel)]; exact ⟨rfl, rfl⟩))
    (fun os started H enc _ => lifted os started H enc)
theorem proved : Rows.FnExactPoolGoneSaid := over
#print axioms proved
end Go.Proofs.Ytpobgjkmjlmafaa.fnExactPoolGone
namespace Go.Proofs.Ytpobgjkmjlmafaa
/-- The row, under a short name, for the claim. -/
theorem fnExactPoolGone_holds : Rows.FnExactPoolGoneSaid := fnExactPoolGone.proved
end Go.Proofs.Ytpobgjkmjlmafaa

/- The program's PoolWrite and the reference's return the same for every pool, name, block and text, leave the argument as it was and share no memory with it or with another call. No condition. -/
import Derived.Test.YtpobgjkmjlmafaaRows
import Derived.Test.YtpobgjkmjlmafaaJo
import Derived.Test.YtpobgjkmjlmafaaEe
import Derived.Test.YtpobgjkmjlmafaaOa
import Derived.WalkKit
import Derived.ProofKit
import Derived.OpenShut
import Derived.ShutString
import Derived.ChangeOld
import Derived.Below
import Derived.SizedLaws
namespace Go.Proofs.Ytpobgjkmjlmafaa.fnExactPoolWrite
open Go.ChangeShapes Go.WideShapes Go.ChangeAt Go.RowKit
open Go.ChangeMaps (open_string shut_string)
set_option linter.unusedVariables false
theorem own : ownKnob Try.prog.godebug = none := by kernel_rfl
theorem laidOut : laidOutB Try.prog = true := by kernel_rfl
set_option maxRecDepth 100000 in
theorem lifted (os : Os) (started : os.Started) (H : Type) (enc : TypeId × Value → H) :
    ReturnsInHanded {} Try.checked os 6 .any (Rows.fnExactPoolWriteSpec.pre6 enc Try.prog Try.f6 Rows.fnExactPoolWriteRow.domain false) (Rows.fnExactPoolWriteSpec.post enc Try.prog Try.f6 false true false false) := by
  refine returnsInHanded_of_change_sized (C := Try.checked) own started (by kernel_rfl) Try.func6
    (ChangeSpec.witness6 (enc := enc) (C := Try.checked) false ⟨#[], #[.agg #[.slice none 0 0, .slice none 0 0], .string ByteArray.empty, .int .i64 0, .string ByteArray.empty], []⟩ 8 (by kernel_rfl) (by kernel_rfl) (by kernel_rfl) (by kernel_rfl)) ?_
  intro W base args ds gs before hval0 hW hcnd hsz0 _
  have hsz : (DataW.weightsEach Try.prog (Try.f6.params.toList ++ Rows.fnExactPoolWriteSpec.plain.varTypes Try.prog) (ds ++ gs)).all (· ≤ reachBytes) = true := hsz0
  have hval : ∀ (j : Nat) t v, Try.f6.params[j]? = some t → args[j]? = some v → Value.okWide Try.prog W .any base t v := hval0
  have hW' := hW
  obtain ⟨p, q, hA0, hV, rfl, hfz, hnd⟩ := hW
  have hA : DataW.TrodAll enc Try.prog W 0 (fun _ => true) true Try.f6.params.toList args.toList ds p := hA0
  rw [Try.params6] at hA hval hsz
  obtain ⟨v0, vs0, d0, ds0, p0, q0, hargs, rfl, rfl, h0, r0⟩ := trodAll_cons hA
  obtain ⟨v1, vs1, d1, ds1, p1, q1, rfl, rfl, rfl, h1, r1⟩ := trodAll_cons r0
  obtain ⟨v2, vs2, d2, ds2, p2, q2, rfl, rfl, rfl, h2, r2⟩ := trodAll_cons r1
  obtain ⟨v3, vs3, d3, ds3, p3, q3, rfl, rfl, rfl, h3, r3⟩ := trodAll_cons r2
  obtain ⟨rfl, rfl, rfl⟩ := trodAll_nil r3
  obtain rfl : args = #[v0, v1, v2, v3] := by cases args; simp_all
  obtain ⟨rfl, rfl⟩ := trodVars_none hV
  have k0 := h0
  have lt0 : ∀ x ∈ p0, x.block < W.heap.size := by obtain ⟨m, hm⟩ := k0; exact DataW.trod_lt m _ _ _ hm
  obtain ⟨A00, A01, c00, c01, l0, rfl, x0, y0, z0⟩ := open_pool (hval 0 25 v0 rfl rfl) h0
  obtain ⟨a1, rfl, rfl, rfl, y1⟩ := open_string Try.underlying9 (hval 1 9 v1 rfl rfl) h1
  have w1 : a1.size ≤ 9223372036854775807 := by have := big_max; omega
  obtain ⟨a2, rfl, rfl, rfl, w2⟩ := open_int Try.underlying3 (hval 2 3 v2 rfl rfl) h2
  have y2 := bounds_i64 w2
  obtain ⟨a3, rfl, rfl, rfl, y3⟩ := open_string Try.underlying9 (hval 3 9 v3 rfl rfl) h3
  have w3 : a3.size ≤ 9223372036854775807 := by have := big_max; omega
  clear hA0 hval0 hsz0 hsz
  refine (lawFnExactPoolWrite_c x0 y0 z0 w1 y2.1 y2.2 w3).mono fun e W' ⟨he, bel⟩ => ?_
  subst he
  exact ⟨_, rfl, _, _, _, [], _, [], hW', trodAll_mk1 (shut_bool Try.underlying4 _), (trodAll_cons_mk (Below.trod laidOut (by kernel_rfl) (of_decide_eq_true (by kernel_rfl)) k0 bel lt0) (trodAll_cons_mk (shut_string Try.underlying9 y1) (trodAll_cons_mk (shut_int Try.underlying3 w2) (trodAll_cons_mk (shut_string Try.underlying9 y3) trodAll_mk0)))), rfl, bel.frame _, fun h => by cases h⟩
theorem c0 : (Rows.fnExactPoolWriteRow.wf (OpenSpec.ofChange Rows.fnExactPoolWriteSpec)) = true := by kernel_rfl
theorem c3 : (Try.f6.params.all (Try.prog.readableRec ·)) = true := by kernel_rfl
theorem c4 : (namedTie Try.prog Rows.fnExactPoolWriteRow.named Rows.fnExactPoolWriteSpec.vars) = true := by kernel_rfl
theorem c5 : (Rows.fnExactPoolWriteRow.stops == []) = true := by kernel_rfl
theorem c7 : (Rows.fnExactPoolWriteRow.knobs == []) = true := by kernel_rfl
theorem c9 : (Rows.fnExactPoolWriteRow.inPlace == Try.prog.inPlace 6) = true := by kernel_rfl
theorem c10 : (Rows.fnExactPoolWriteRow.unfollowed == Try.prog.unfollowed 6) = true := by kernel_rfl
theorem c11 : (Rows.fnExactPoolWriteRow.recurses == Try.prog.recurses 6) = true := by kernel_rfl
theorem c12 : (Rows.fnExactPoolWriteRow.named == Try.prog.varsNamed 6) = true := by kernel_rfl
theorem c13 : (Rows.fnExactPoolWriteRow.maps == (Try.f6.params.toList ++ Rows.fnExactPoolWriteSpec.plain.varTypes Try.prog).any (Try.prog.mapsRec ·)) = true := by kernel_rfl
theorem c14 : (Rows.fnExactPoolWriteRow.ifaces == (Try.f6.params.toList ++ Rows.fnExactPoolWriteSpec.plain.varTypes Try.prog).any (Try.prog.ifacesRec ·)) = true := by kernel_rfl
theorem c15 : (Rows.fnExactPoolWriteRow.mapsOut == Try.prog.mapsAmong Try.f6.resultTypes.toList) = true := by kernel_rfl
theorem c16 : (Rows.fnExactPoolWriteRow.loops == (Try.f6.params.toList ++ Rows.fnExactPoolWriteSpec.plain.varTypes Try.prog).any (Try.prog.loopsFrom ·)) = true := by kernel_rfl
theorem c17 : (Rows.fnExactPoolWriteRow.wideKeys == (Try.f6.params.toList ++ Rows.fnExactPoolWriteSpec.plain.varTypes Try.prog ++ Try.f6.resultTypes.toList).any (Try.prog.wideKeysFrom ·)) = true := by kernel_rfl
theorem c18 : (Rows.fnExactPoolWriteSpec.vars.all (Try.prog.varReadable ·)) = true := by kernel_rfl
theorem c19 : (Try.f6.resultTypes.all (fun t => Try.prog.readableRec t && decide (t < Try.prog.types.size))) = true := by kernel_rfl
theorem c20 : (Rows.fnExactPoolWriteRow.ifacesOut == Try.f6.resultTypes.toList.any (Try.prog.ifacesRec ·)) = true := by kernel_rfl
theorem c21 : (Rows.fnExactPoolWriteRow.loopsOut == Try.f6.resultTypes.toList.any (Try.prog.loopsFrom ·)) = true := by kernel_rfl
theorem c23 : (Rows.fnExactPoolWriteRow.shortTexts.isNone) = true := by kernel_rfl
theorem c28 : (Rows.fnExactPoolWriteRow.kinds == (if Rows.fnExactPoolWriteRow.domain.isEmpty then [] else Try.f6.params.toList.map fun t => match Try.prog.underlying t with | some (.int k) => some k | _ => none)) = true := by kernel_rfl
theorem c29 : (Rows.fnExactPoolWriteRow.pinned == Rows.fnExactPoolWriteRow.pinnedBy) = true := by kernel_rfl
theorem c30 : (Rows.fnExactPoolWriteRow.veiled == (Try.f6.params.toList ++ Rows.fnExactPoolWriteSpec.plain.varTypes Try.prog ++ Try.f6.resultTypes.toList).any (Try.prog.veiledRec ·)) = true := by kernel_rfl
theorem c31 : (Rows.fnExactPoolWriteRow.veiledFits Try.prog Try.f6.params.toList (Try.f6.params.toList ++ Rows.fnExactPoolWriteSpec.plain.varTypes Try.prog ++ Try.f6.resultTypes.toList)) = true := by kernel_rfl
set_option maxRecDepth 1000000 in
theorem closed : joinedFacts Try.prog 6 Try.f6 Rows.fnExactPoolWriteSpec Rows.fnExactPoolWriteRow = true := joined_of c0 jo_laid jo_maps c3 c4 c5 jo_stops c7 jo_knobs c9 c10 c11 c12 c13 c14 c15 c16 c17 c18 c19 c20 c21 jo_keys c23 jo_heard jo_enter jo_final jo_make c28 c29 c30 c31
theorem over : Rows.fnExactPoolWriteRow.holds Try.pinned (OpenSpec.ofChange Rows.fnExactPoolWriteSpec) :=
  OpenClaim.holds_of_wide 6 Try.f6 rfl rfl rfl rfl rfl rfl rfl ⟨rfl, rfl, rfl, rfl, rfl⟩ rfl rfl rfl rfl rfl (by kernel_rfl) Try.func6 closed
    (of_decide_eq_true (by kernel_rfl)) (by unfold Func.isWrapper; first | (rw [if_pos (by decide +kernel)]; kernel_rfl) | (rw [if_neg (by decide +kernel)]; exact ⟨rfl, rfl⟩))
    (fun os started H enc _ => lifted os started H enc)
theorem proved : Rows.FnExactPoolWriteSaid := over
#print axioms proved
end Go.Proofs.Ytpobgjkmjlmafaa.fnExactPoolWrite
namespace Go.Proofs.Ytpobgjkmjlmafaa
/-- The row, under a short name, for the claim. -/
theorem fnExactPoolWrite_holds : Rows.FnExactPoolWriteSaid := fnExactPoolWrite.proved
end Go.Proofs.Ytpobgjkmjlmafaa

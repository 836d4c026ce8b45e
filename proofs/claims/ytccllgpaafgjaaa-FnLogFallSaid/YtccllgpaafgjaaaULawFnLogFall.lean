/- The law FnLogFall returns true for every code, and the codes read afterwards as they read before. No condition. -/
import Derived.Test.YtccllgpaafgjaaaRows
import Derived.Test.YtccllgpaafgjaaaU6
import Derived.WalkKit
import Derived.ProofKit
import Derived.OpenShut
import Derived.ShutString
import Derived.ChangeOld
import Derived.Below
import Derived.SizedLaws
namespace Go.Proofs.Ytccllgpaafgjaaa.fnLogFall
open Go.ChangeShapes Go.WideShapes Go.ChangeAt Go.RowKit
open Go.ChangeMaps (open_string shut_string)
set_option linter.unusedVariables false
theorem own : ownKnob Try.prog.godebug = none := by kernel_rfl
theorem laidOut : laidOutB Try.prog = true := by kernel_rfl
set_option maxRecDepth 100000 in
theorem lifted (os : Os) (started : os.Started) (H : Type) (enc : TypeId × Value → H) :
    ReturnsInHanded {} Try.checked os 9 .any (Rows.fnLogFallSpec.pre6 enc Try.prog Try.f9 Rows.fnLogFallRow.domain false) (Rows.fnLogFallSpec.post enc Try.prog Try.f9 false true false false) := by
  refine returnsInHanded_of_change_sized (C := Try.checked) own started (by kernel_rfl) Try.func9
    (ChangeSpec.witness6 (enc := enc) (C := Try.checked) false ⟨#[], #[.slice none 0 0], []⟩ 8 (by kernel_rfl) (by kernel_rfl) (by kernel_rfl) (by kernel_rfl)) ?_
  intro W base args ds gs before hval0 hW hcnd hsz0 _
  have hsz : (DataW.weightsEach Try.prog (Try.f9.params.toList ++ Rows.fnLogFallSpec.plain.varTypes Try.prog) (ds ++ gs)).all (· ≤ reachBytes) = true := hsz0
  have hval : ∀ (j : Nat) t v, Try.f9.params[j]? = some t → args[j]? = some v → Value.okWide Try.prog W .any base t v := hval0
  have hW' := hW
  obtain ⟨p, q, hA0, hV, rfl, hfz, hnd⟩ := hW
  have hA : DataW.TrodAll enc Try.prog W 0 (fun _ => true) true Try.f9.params.toList args.toList ds p := hA0
  rw [Try.params9] at hA hval hsz
  obtain ⟨v0, vs0, d0, ds0, p0, q0, hargs, rfl, rfl, h0, r0⟩ := trodAll_cons hA
  obtain ⟨rfl, rfl, rfl⟩ := trodAll_nil r0
  obtain rfl : args = #[v0] := by cases args; simp_all
  obtain ⟨rfl, rfl⟩ := trodVars_none hV
  have k0 := h0
  have lt0 : ∀ x ∈ p0, x.block < W.heap.size := by obtain ⟨m, hm⟩ := k0; exact DataW.trod_lt m _ _ _ hm
  obtain ⟨A0, n0, c0, l0, rfl, x0, y0⟩ := open_bytes (hval 0 31 v0 rfl rfl) h0
  clear hA0 hval0 hsz0 hsz
  refine (lawFnLogFall_c x0 y0).mono fun e W' ⟨he, bel⟩ => ?_
  subst he
  exact ⟨_, rfl, _, _, _, [], _, [], hW', trodAll_mk1 (shut_bool Try.underlying4 _), (trodAll_cons_mk (Below.trod laidOut (by kernel_rfl) (of_decide_eq_true (by kernel_rfl)) k0 bel lt0) trodAll_mk0), rfl, bel.frame _, fun h => by cases h⟩
theorem c0 : (Rows.fnLogFallRow.wf (OpenSpec.ofChange Rows.fnLogFallSpec)) = true := by kernel_rfl
theorem c3 : (Try.f9.params.all (Try.prog.readableRec ·)) = true := by kernel_rfl
theorem c4 : (namedTie Try.prog Rows.fnLogFallRow.named Rows.fnLogFallSpec.vars) = true := by kernel_rfl
theorem c5 : (Rows.fnLogFallRow.stops == []) = true := by kernel_rfl
theorem c7 : (Rows.fnLogFallRow.knobs == []) = true := by kernel_rfl
theorem c9 : (Rows.fnLogFallRow.inPlace == Try.prog.inPlace 9) = true := by kernel_rfl
theorem c10 : (Rows.fnLogFallRow.unfollowed == Try.prog.unfollowed 9) = true := by kernel_rfl
theorem c11 : (Rows.fnLogFallRow.recurses == Try.prog.recurses 9) = true := by kernel_rfl
theorem c12 : (Rows.fnLogFallRow.named == Try.prog.varsNamed 9) = true := by kernel_rfl
theorem c13 : (Rows.fnLogFallRow.maps == (Try.f9.params.toList ++ Rows.fnLogFallSpec.plain.varTypes Try.prog).any (Try.prog.mapsRec ·)) = true := by kernel_rfl
theorem c14 : (Rows.fnLogFallRow.ifaces == (Try.f9.params.toList ++ Rows.fnLogFallSpec.plain.varTypes Try.prog).any (Try.prog.ifacesRec ·)) = true := by kernel_rfl
theorem c15 : (Rows.fnLogFallRow.mapsOut == Try.prog.mapsAmong Try.f9.resultTypes.toList) = true := by kernel_rfl
theorem c16 : (Rows.fnLogFallRow.loops == (Try.f9.params.toList ++ Rows.fnLogFallSpec.plain.varTypes Try.prog).any (Try.prog.loopsFrom ·)) = true := by kernel_rfl
theorem c17 : (Rows.fnLogFallRow.wideKeys == (Try.f9.params.toList ++ Rows.fnLogFallSpec.plain.varTypes Try.prog ++ Try.f9.resultTypes.toList).any (Try.prog.wideKeysFrom ·)) = true := by kernel_rfl
theorem c18 : (Rows.fnLogFallSpec.vars.all (Try.prog.varReadable ·)) = true := by kernel_rfl
theorem c19 : (Try.f9.resultTypes.all (fun t => Try.prog.readableRec t && decide (t < Try.prog.types.size))) = true := by kernel_rfl
theorem c20 : (Rows.fnLogFallRow.ifacesOut == Try.f9.resultTypes.toList.any (Try.prog.ifacesRec ·)) = true := by kernel_rfl
theorem c21 : (Rows.fnLogFallRow.loopsOut == Try.f9.resultTypes.toList.any (Try.prog.loopsFrom ·)) = true := by kernel_rfl
theorem c23 : (Rows.fnLogFallRow.shortTexts.isNone) = true := by kernel_rfl
theorem c28 : (Rows.fnLogFallRow.kinds == (if Rows.fnLogFallRow.domain.isEmpty then [] else Try.f9.params.toList.map fun t => match Try.prog.underlying t with | some (.int k) => some k | _ => none)) = true := by kernel_rfl
theorem c29 : (Rows.fnLogFallRow.pinned == Rows.fnLogFallRow.pinnedBy) = true := by kernel_rfl
theorem c30 : (Rows.fnLogFallRow.veiled == (Try.f9.params.toList ++ Rows.fnLogFallSpec.plain.varTypes Try.prog ++ Try.f9.resultTypes.toList).any (Try.prog.veiledRec ·)) = true := by kernel_rfl
theorem c31 : (Rows.fnLogFallRow.veiledFits Try.prog Try.f9.params.toList (Try.f9.params.toList ++ Rows.fnLogFallSpec.plain.varTypes Try.prog ++ Try.f9.resultTypes.toList)) = true := by kernel_rfl
set_option maxRecDepth 1000000 in
theorem closed : joinedFacts Try.prog 9 Try.f9 Rows.fnLogFallSpec Rows.fnLogFallRow = true := joined_of c0 jo_laid jo_maps c3 c4 c5 jo_stops c7 jo_knobs c9 c10 c11 c12 c13 c14 c15 c16 c17 c18 c19 c20 c21 jo_keys c23 jo_heard jo_enter jo_final jo_make c28 c29 c30 c31
theorem over : Rows.fnLogFallRow.holds Try.pinned (OpenSpec.ofChange Rows.fnLogFallSpec) :=
  OpenClaim.holds_of_wide 9 Try.f9 rfl rfl rfl rfl rfl rfl rfl ⟨rfl, rfl, rfl, rfl, rfl⟩ rfl rfl rfl rfl rfl (by kernel_rfl) Try.func9 closed
    (of_decide_eq_true (by kernel_rfl)) (by unfold Func.isWrapper; first | (rw [if_pos (by decide +kernel)]; kernel_rfl) | (rw [if_neg (by decide +kernel)]; exact ⟨rfl, rfl⟩))
    (fun os started H enc _ => lifted os started H enc)
theorem proved : Rows.FnLogFallSaid := over
#print axioms proved
end Go.Proofs.Ytccllgpaafgjaaa.fnLogFall
namespace Go.Proofs.Ytccllgpaafgjaaa
/-- The row, under a short name, for the claim. -/
theorem fnLogFall_holds : Rows.FnLogFallSaid := fnLogFall.proved
end Go.Proofs.Ytccllgpaafgjaaa

/- The program's NodeHear and the reference's return the same for every node, every number and every letter, leave their arguments as they were and share no memory with them or with another call. No condition. -/
import Derived.Test.YtccllgpaafgjaaaGreatRows
import Derived.Test.YtccllgpaafgjaaaGreatS1
import Derived.Test.YtccllgpaafgjaaaGreatS2
import Derived.Test.YtccllgpaafgjaaaGreatS3
import Derived.Test.YtccllgpaafgjaaaGreatS4
import Derived.Test.YtccllgpaafgjaaaGreatS5
import Derived.Test.YtccllgpaafgjaaaGreatS6
import Derived.Test.YtccllgpaafgjaaaGreatS7
import Derived.Test.YtccllgpaafgjaaaGreatS8
import Derived.Test.YtccllgpaafgjaaaGreatS9
import Derived.Test.YtccllgpaafgjaaaGreatS10
import Derived.Test.YtccllgpaafgjaaaGreatS11
import Derived.Test.YtccllgpaafgjaaaGreatS12
import Derived.Test.YtccllgpaafgjaaaGreatSFnExactNodeHear
import Derived.WalkKit
import Derived.ProofKit
import Derived.OpenShut
import Derived.ShutString
import Derived.ChangeOld
import Derived.Below
import Derived.SizedLaws
namespace Go.Proofs.YtccllgpaafgjaaaGreat.fnExactNodeHear
open Go.ChangeShapes Go.WideShapes Go.ChangeAt Go.RowKit
open Go.ChangeMaps (open_string shut_string)
set_option linter.unusedVariables false
theorem own : ownKnob Tryz.prog.godebug = none := by kernel_rfl
theorem laidOut : laidOutB Tryz.prog = true := by kernel_rfl
set_option maxRecDepth 100000 in
theorem lifted (os : Os) (started : os.Started) (H : Type) (enc : TypeId × Value → H) :
  ReturnsInHanded {} Tryz.checked os 16 .any (Rows.fnExactNodeHearSpec.pre6 enc Tryz.prog Tryz.f16 Rows.fnExactNodeHearRow.domain false) (Rows.fnExactNodeHearSpec.post enc Tryz.prog Tryz.f16 false true false false) := by
 refine returnsInHanded_of_change_sized (C := Tryz.checked) own started (by kernel_rfl) Tryz.func16
  (ChangeSpec.witness6 (enc := enc) (C := Tryz.checked) false ⟨#[], #[.agg #[.bool false, .int .i64 0, .bool false, .bool false, .slice none 0 0], .int .i64 0, .agg #[.int .i64 0, .int .i64 0, .int .i64 0, .int .i64 0, .int .i64 0, .string ByteArray.empty, .string ByteArray.empty, .int .i64 0, .string ByteArray.empty, .slice none 0 0]], []⟩ 8 (by kernel_rfl) (by kernel_rfl) (by kernel_rfl) (by kernel_rfl)) ?_
 intro W base args ds gs before hval0 hW hcnd hsz0 _
 have hsz : (DataW.weightsEach Tryz.prog (Tryz.f16.params.toList ++ Rows.fnExactNodeHearSpec.plain.varTypes Tryz.prog) (ds ++ gs)).all (· ≤ reachBytes) = true := hsz0
 have hval : ∀ (j : Nat) t v, Tryz.f16.params[j]? = some t → args[j]? = some v → Value.okWide Tryz.prog W .any base t v := hval0
 have hW' := hW
 obtain ⟨p, q, hA0, hV, rfl, hfz, hnd⟩ := hW
 have hA : DataW.TrodAll enc Tryz.prog W 0 (fun _ => true) true Tryz.f16.params.toList args.toList ds p := hA0
 rw [Tryz.params16] at hA hval hsz
 obtain ⟨v0, vs0, d0, ds0, p0, q0, hargs, rfl, rfl, h0, r0⟩ := trodAll_cons hA
 obtain ⟨v1, vs1, d1, ds1, p1, q1, rfl, rfl, rfl, h1, r1⟩ := trodAll_cons r0
 obtain ⟨v2, vs2, d2, ds2, p2, q2, rfl, rfl, rfl, h2, r2⟩ := trodAll_cons r1
 obtain ⟨rfl, rfl, rfl⟩ := trodAll_nil r2
 obtain rfl : args = #[v0, v1, v2] := by cases args; simp_all
 obtain ⟨rfl, rfl⟩ := trodVars_none hV
 have k0 := h0
 have lt0 : ∀ x ∈ p0, x.block < W.heap.size := by obtain ⟨m, hm⟩ := k0; exact DataW.trod_lt m _ _ _ hm
 obtain ⟨l0, A0, c0, rfl, x0, y0⟩ := open_node (hval 0 53 v0 rfl rfl) h0
 obtain ⟨a1, rfl, rfl, rfl, w1⟩ := open_int Tryz.underlying3 (hval 1 3 v1 rfl rfl) h1
 have y1 := bounds_i64 w1
 have k2 := h2
 have lt2 : ∀ x ∈ p2, x.block < W.heap.size := by obtain ⟨m, hm⟩ := k2; exact DataW.trod_lt m _ _ _ hm
 obtain ⟨l2, A2, c2, rfl, x2, y2, z2⟩ := open_msg (hval 2 91 v2 rfl rfl) h2
 clear hA0 hval0 hsz0 hsz
 refine (lawFnExactNodeHear_r x0 y0 y1.1 y1.2 x2 y2 z2).mono fun e W' ⟨he, bel⟩ => ?_
 subst he
 exact ⟨_, rfl, _, _, _, [], _, [], hW', trodAll_mk1 (shut_bool Tryz.underlying4 _), (trodAll_cons_mk (Below.trod laidOut (by kernel_rfl) (of_decide_eq_true (by kernel_rfl)) k0 bel lt0) (trodAll_cons_mk (shut_int Tryz.underlying3 w1) (trodAll_cons_mk (Below.trod laidOut (by kernel_rfl) (of_decide_eq_true (by kernel_rfl)) k2 bel lt2) trodAll_mk0))), rfl, bel.frame _, fun h => by cases h⟩
theorem c0 : (Rows.fnExactNodeHearRow.wf (OpenSpec.ofChange Rows.fnExactNodeHearSpec)) = true := by kernel_rfl
theorem c3 : (Tryz.f16.params.all (Tryz.prog.readableRec ·)) = true := by kernel_rfl
theorem c4 : (namedTie Tryz.prog Rows.fnExactNodeHearRow.named Rows.fnExactNodeHearSpec.vars) = true := by kernel_rfl
theorem c5 : (Rows.fnExactNodeHearRow.stops == []) = true := by kernel_rfl
theorem c7 : (Rows.fnExactNodeHearRow.knobs == []) = true := by kernel_rfl
theorem c9 : (Rows.fnExactNodeHearRow.inPlace == Tryz.prog.inPlace 16) = true := by kernel_rfl
theorem c10 : (Rows.fnExactNodeHearRow.unfollowed == Tryz.prog.unfollowed 16) = true := by kernel_rfl
theorem c11 : (Rows.fnExactNodeHearRow.recurses == Tryz.prog.recurses 16) = true := by kernel_rfl
theorem c12 : (Rows.fnExactNodeHearRow.named == Tryz.prog.varsNamed 16) = true := by kernel_rfl
theorem c13 : (Rows.fnExactNodeHearRow.maps == (Tryz.f16.params.toList ++ Rows.fnExactNodeHearSpec.plain.varTypes Tryz.prog).any (Tryz.prog.mapsRec ·)) = true := by kernel_rfl
theorem c14 : (Rows.fnExactNodeHearRow.ifaces == (Tryz.f16.params.toList ++ Rows.fnExactNodeHearSpec.plain.varTypes Tryz.prog).any (Tryz.prog.ifacesRec ·)) = true := by kernel_rfl
theorem c15 : (Rows.fnExactNodeHearRow.mapsOut == Tryz.prog.mapsAmong Tryz.f16.resultTypes.toList) = true := by kernel_rfl
theorem c16 : (Rows.fnExactNodeHearRow.loops == (Tryz.f16.params.toList ++ Rows.fnExactNodeHearSpec.plain.varTypes Tryz.prog).any (Tryz.prog.loopsFrom ·)) = true := by kernel_rfl
theorem c17 : (Rows.fnExactNodeHearRow.wideKeys == (Tryz.f16.params.toList ++ Rows.fnExactNodeHearSpec.plain.varTypes Tryz.prog ++ Tryz.f16.resultTypes.toList).any (Tryz.prog.wideKeysFrom ·)) = true := by kernel_rfl
theorem c18 : (Rows.fnExactNodeHearSpec.vars.all (Tryz.prog.varReadable ·)) = true := by kernel_rfl
theorem c19 : (Tryz.f16.resultTypes.all (fun t => Tryz.prog.readableRec t && decide (t < Tryz.prog.types.size))) = true := by kernel_rfl
theorem c20 : (Rows.fnExactNodeHearRow.ifacesOut == Tryz.f16.resultTypes.toList.any (Tryz.prog.ifacesRec ·)) = true := by kernel_rfl
theorem c21 : (Rows.fnExactNodeHearRow.loopsOut == Tryz.f16.resultTypes.toList.any (Tryz.prog.loopsFrom ·)) = true := by kernel_rfl
theorem c23 : (Rows.fnExactNodeHearRow.shortTexts.isNone) = true := by kernel_rfl
theorem c28 : (Rows.fnExactNodeHearRow.kinds == (if Rows.fnExactNodeHearRow.domain.isEmpty then [] else Tryz.f16.params.toList.map fun t => match Tryz.prog.underlying t with | some (.int k) => some k | _ => none)) = true := by kernel_rfl
theorem c29 : (Rows.fnExactNodeHearRow.pinned == Rows.fnExactNodeHearRow.pinnedBy) = true := by kernel_rfl
theorem c30 : (Rows.fnExactNodeHearRow.veiled == (Tryz.f16.params.toList ++ Rows.fnExactNodeHearSpec.plain.varTypes Tryz.prog ++ Tryz.f16.resultTypes.toList).any (Tryz.prog.veiledRec ·)) = true := by kernel_rfl
theorem c31 : (Rows.fnExactNodeHearRow.veiledFits Tryz.prog Tryz.f16.params.toList (Tryz.f16.params.toList ++ Rows.fnExactNodeHearSpec.plain.varTypes Tryz.prog ++ Tryz.f16.resultTypes.toList)) = true := by kernel_rfl
set_option maxRecDepth 1000000 in
theorem closed : joinedFacts Tryz.prog 16 Tryz.f16 Rows.fnExactNodeHearSpec Rows.fnExactNodeHearRow = true := joined_of c0 jo_laid jo_maps c3 c4 c5 jo_stops c7 jo_knobs c9 c10 c11 c12 c13 c14 c15 c16 c17 c18 c19 c20 c21 jo_keys c23 jo_heard jo_enter jo_final jo_make c28 c29 c30 c31
theorem over : Rows.fnExactNodeHearRow.holds Tryz.pinned (OpenSpec.ofChange Rows.fnExactNodeHearSpec) :=
 OpenClaim.holds_of_wide 16 Tryz.f16 rfl rfl rfl rfl rfl rfl rfl ⟨rfl, rfl, rfl, rfl, rfl⟩ rfl rfl rfl rfl rfl (by kernel_rfl) Tryz.func16 closed
  (of_decide_eq_true (by kernel_rfl)) (by unfold Func.isWrapper; first | (rw [if_pos (by decide +kernel)]; kernel_rfl) | (rw [if_neg (by decide +kernel)]; exact ⟨rfl, rfl⟩))
  (fun os started H enc _ => lifted os started H enc)
theorem proved : Rows.FnExactNodeHearSaid := over
#print axioms proved
end Go.Proofs.YtccllgpaafgjaaaGreat.fnExactNodeHear
namespace Go.Proofs.YtccllgpaafgjaaaGreat
theorem fnExactNodeHear_holds : Rows.FnExactNodeHearSaid := fnExactNodeHear.proved
end Go.Proofs.YtccllgpaafgjaaaGreat

/- The closed facts of the rows that do not depend on the law, and how a row's facts are put together one by one. -/
import Derived.Test.YtpobgjkmjlmafaaRows
import Derived.JoinedOf
import Derived.KernelRfl
namespace Go.Proofs.Ytpobgjkmjlmafaa
open Go.ChangeShapes Go.WideShapes
set_option linter.unusedVariables false
theorem joined_of {P : Program} {f : FuncId} {fn : Func} {s : ChangeSpec} {c : OpenClaim}
    (h0 : (c.wf (OpenSpec.ofChange s)) = true)
    (h1 : (laidOutB P) = true)
    (h2 : (mapsRowed P) = true)
    (h3 : (fn.params.all (P.readableRec ·)) = true)
    (h4 : (namedTie P c.named s.vars) = true)
    (h5 : (c.stops == []) = true)
    (h6 : (P.stops == []) = true)
    (h7 : (c.knobs == []) = true)
    (h8 : (P.stopKnobs == []) = true)
    (h9 : (c.inPlace == P.inPlace f) = true)
    (h10 : (c.unfollowed == P.unfollowed f) = true)
    (h11 : (c.recurses == P.recurses f) = true)
    (h12 : (c.named == P.varsNamed f) = true)
    (h13 : (c.maps == (fn.params.toList ++ s.plain.varTypes P).any (P.mapsRec ·)) = true)
    (h14 : (c.ifaces == (fn.params.toList ++ s.plain.varTypes P).any (P.ifacesRec ·)) = true)
    (h15 : (c.mapsOut == P.mapsAmong fn.resultTypes.toList) = true)
    (h16 : (c.loops == (fn.params.toList ++ s.plain.varTypes P).any (P.loopsFrom ·)) = true)
    (h17 : (c.wideKeys == (fn.params.toList ++ s.plain.varTypes P ++ fn.resultTypes.toList).any (P.wideKeysFrom ·)) = true)
    (h18 : (s.vars.all (P.varReadable ·)) = true)
    (h19 : (fn.resultTypes.all (fun t => P.readableRec t && decide (t < P.types.size))) = true)
    (h20 : (c.ifacesOut == fn.resultTypes.toList.any (P.ifacesRec ·)) = true)
    (h21 : (c.loopsOut == fn.resultTypes.toList.any (P.loopsFrom ·)) = true)
    (h22 : (c.plainKeys == P.plainKeys) = true)
    (h23 : (c.shortTexts.isNone) = true)
    (h24 : (P.stopsHeard) = true)
    (h25 : (P.mayEnter) = true)
    (h26 : (c.lifted == P.liftsFinal) = true)
    (h27 : (P.make == some c.make) = true)
    (h28 : (c.kinds == (if c.domain.isEmpty then [] else fn.params.toList.map fun t => match P.underlying t with | some (.int k) => some k | _ => none)) = true)
    (h29 : (c.pinned == c.pinnedBy) = true)
    (h30 : (c.veiled == (fn.params.toList ++ s.plain.varTypes P ++ fn.resultTypes.toList).any (P.veiledRec ·)) = true)
    (h31 : (c.veiledFits P fn.params.toList (fn.params.toList ++ s.plain.varTypes P ++ fn.resultTypes.toList)) = true) : joinedFacts P f fn s c = true := by
  unfold joinedFacts
  simp only [Bool.and_eq_true]
  exact ⟨⟨⟨⟨⟨⟨⟨⟨⟨⟨⟨⟨⟨⟨⟨⟨⟨⟨⟨⟨⟨⟨⟨⟨⟨⟨⟨⟨⟨⟨⟨h0, h1⟩, h2⟩, h3⟩, h4⟩, h5⟩, h6⟩, h7⟩, h8⟩, h9⟩, h10⟩, h11⟩, h12⟩, h13⟩, h14⟩, h15⟩, h16⟩, h17⟩, h18⟩, h19⟩, h20⟩, h21⟩, h22⟩, h23⟩, h24⟩, h25⟩, h26⟩, h27⟩, h28⟩, h29⟩, h30⟩, h31⟩
def ordN : List Nat := [104, 97, 114, 110, 101, 115, 115, 32, 56, 52, 48, 98, 101, 101, 57, 56, 98, 48, 49, 53, 97, 97, 98, 97, 56, 99, 50, 49, 53, 55, 56, 56, 100, 54, 53, 51, 102, 57, 102, 98,
  54, 53, 97, 97, 55, 50, 48, 50, 51, 100, 56, 52, 98, 101, 50, 98, 57, 50, 48, 56, 56, 49, 53, 97, 100, 52, 51, 51, 50, 56, 52, 55, 32, 99, 117, 116, 32, 97, 116, 32,
  108, 111, 111, 112, 46, 101, 120, 97, 109, 112, 108, 101, 47, 103, 97, 114, 110, 101, 114, 47, 108, 97, 119, 115, 46, 70, 110, 69, 120, 97, 99, 116, 80, 111, 111, 108, 71, 111, 110, 101,
  32, 108, 111, 111, 112, 46, 101, 120, 97, 109, 112, 108, 101, 47, 103, 97, 114, 110, 101, 114, 47, 108, 97, 119, 115, 46, 70, 110, 80, 111, 111, 108, 69, 109, 112, 116, 121, 32, 108, 111,
  111, 112, 46, 101, 120, 97, 109, 112, 108, 101, 47, 103, 97, 114, 110, 101, 114, 47, 108, 97, 119, 115, 46, 70, 110, 71, 111, 110, 101, 32, 108, 111, 111, 112, 46, 101, 120, 97, 109, 112,
  108, 101, 47, 103, 97, 114, 110, 101, 114, 47, 108, 97, 119, 115, 46, 70, 110, 69, 120, 97, 99, 116, 80, 111, 111, 108, 87, 114, 105, 116, 101, 32, 108, 111, 111, 112, 46, 101, 120, 97,
  109, 112, 108, 101, 47, 103, 97, 114, 110, 101, 114, 47, 108, 97, 119, 115, 46, 70, 110, 87, 114, 105, 116, 101, 82, 111, 111, 109, 32, 108, 111, 111, 112, 46, 101, 120, 97, 109, 112, 108,
  101, 47, 103, 97, 114, 110, 101, 114, 47, 108, 97, 119, 115, 46, 70, 110, 87, 114, 105, 116, 101, 83, 97, 109, 101, 32, 108, 111, 111, 112, 46, 101, 120, 97, 109, 112, 108, 101, 47, 103,
  97, 114, 110, 101, 114, 47, 108, 97, 119, 115, 46, 70, 110, 87, 114, 105, 116, 101, 82, 101, 97, 100, 32, 108, 111, 111, 112, 46, 101, 120, 97, 109, 112, 108, 101, 47, 103, 97, 114, 110,
  101, 114, 47, 108, 97, 119, 115, 46, 70, 110, 87, 114, 105, 116, 101, 70, 114, 101, 101, 32, 108, 111, 111, 112, 46, 101, 120, 97, 109, 112, 108, 101, 47, 103, 97, 114, 110, 101, 114, 47,
  108, 97, 119, 115, 46, 70, 110, 87, 114, 105, 116, 101, 84, 119, 105, 99, 101, 32, 108, 111, 111, 112, 46, 101, 120, 97, 109, 112, 108, 101, 47, 103, 97, 114, 110, 101, 114, 47, 108, 97,
  119, 115, 46, 70, 110, 69, 120, 97, 99, 116, 80, 111, 111, 108, 77, 97, 107, 101, 32, 108, 111, 111, 112, 46, 101, 120, 97, 109, 112, 108, 101, 47, 103, 97, 114, 110, 101, 114, 47, 108,
  97, 119, 115, 46, 70, 110, 77, 97, 107, 101, 84, 119, 111, 32, 108, 111, 111, 112, 46, 101, 120, 97, 109, 112, 108, 101, 47, 103, 97, 114, 110, 101, 114, 47, 108, 97, 119, 115, 46, 70,
  110, 69, 120, 97, 99, 116, 80, 111, 111, 108, 67, 108, 111, 110, 101, 32, 108, 111, 111, 112, 46, 101, 120, 97, 109, 112, 108, 101, 47, 103, 97, 114, 110, 101, 114, 47, 108, 97, 119, 115,
  46, 70, 110, 77, 97, 107, 101, 32, 108, 111, 111, 112, 46, 101, 120, 97, 109, 112, 108, 101, 47, 103, 97, 114, 110, 101, 114, 47, 108, 97, 119, 115, 46, 70, 110, 67, 108, 111, 110, 101,
  84, 119, 111, 32, 108, 111, 111, 112, 46, 101, 120, 97, 109, 112, 108, 101, 47, 103, 97, 114, 110, 101, 114, 47, 108, 97, 119, 115, 46, 70, 110, 67, 108, 111, 110, 101, 32, 108, 111, 111,
  112, 46, 101, 120, 97, 109, 112, 108, 101, 47, 103, 97, 114, 110, 101, 114, 47, 108, 97, 119, 115, 46, 70, 110, 67, 108, 111, 110, 101, 71, 111, 110, 101, 32, 108, 111, 111, 112, 46, 101,
  120, 97, 109, 112, 108, 101, 47, 103, 97, 114, 110, 101, 114, 47, 108, 97, 119, 115, 46, 70, 110, 71, 111, 110, 101, 77, 97, 107, 101, 32, 108, 111, 111, 112, 46, 101, 120, 97, 109, 112,
  108, 101, 47, 103, 97, 114, 110, 101, 114, 47, 108, 97, 119, 115, 46, 70, 110, 67, 108, 111, 110, 101, 87, 114, 105, 116, 101, 32, 108, 111, 111, 112, 46, 101, 120, 97, 109, 112, 108, 101,
  47, 103, 97, 114, 110, 101, 114, 47, 108, 97, 119, 115, 46, 70, 110, 79, 112, 68, 111, 32, 108, 111, 111, 112, 46, 101, 120, 97, 109, 112, 108, 101, 47, 103, 97, 114, 110, 101, 114, 47,
  108, 97, 119, 115, 46, 70, 110, 79, 112, 65, 112, 97, 114, 116, 32, 108, 111, 111, 112, 46, 101, 120, 97, 109, 112, 108, 101, 47, 103, 97, 114, 110, 101, 114, 47, 108, 97, 119, 115, 46,
  70, 110, 79, 112, 84, 119, 105, 99, 101]
theorem ord_eq : Try.prog.initOrder = String.ofList (ordN.map Char.ofNat) := by kernel_rfl
theorem ord_list : Try.prog.initOrder.toList = ordN.map Char.ofNat := by rw [ord_eq, String.toList_ofList]
theorem jo_laid : laidOutB Try.prog = true := by kernel_rfl
theorem jo_maps : mapsRowed Try.prog = true := by kernel_rfl
theorem jo_stops : (Try.prog.stops == []) = true := by kernel_rfl
theorem jo_knobs : (Try.prog.stopKnobs == []) = true := by kernel_rfl
theorem jo_keys : (true == Try.prog.plainKeys) = true := by kernel_rfl
theorem jo_heard : Try.prog.stopsHeard = true := by kernel_rfl
theorem ord_words : behindMainWord (wordsSigns (ordN.map Char.ofNat)) = "cut".toList :: (behindMainWord (wordsSigns (ordN.map Char.ofNat))).tail := by kernel_rfl
theorem strip_cut (W : List (List Char)) : stripLifts liftWords ("cut".toList :: W) = ([], "cut".toList :: W) := by kernel_rfl
theorem jo_later : Try.prog.laysLater = false := by kernel_rfl
theorem jo_reflect : Try.prog.bearsReflect = false := by kernel_rfl
theorem jo_door : Try.prog.doorFits [] = true := by kernel_rfl
theorem cut_gc : ("cut".toList == "gc".toList) = false := by kernel_rfl
theorem cut_spec : ("cut".toList == "spec".toList) = false := by kernel_rfl
theorem cut_carried : ("cut".toList == "carried".toList) = false := by kernel_rfl
theorem cut_cut : ("cut".toList == "cut".toList) = true := by kernel_rfl
theorem some_cut : (some "cut".toList == some "cut".toList) = true := by kernel_rfl
theorem jo_enter : Try.prog.mayEnter = true := by
  rw [Program.mayEnter, ord_list, ord_words]
  generalize (behindMainWord (wordsSigns (ordN.map Char.ofNat))).tail = W
  simp only [strip_cut, cut_gc, cut_spec, cut_carried, List.head?_cons, some_cut, jo_later, jo_reflect, jo_door, Bool.or_self, Bool.false_and, Bool.not_false, Bool.or_true, Bool.and_self, List.contains_nil]
theorem jo_lifts : Try.prog.headLifts = [] := by
  unfold Program.headLifts
  rw [ord_list, ord_words]
  generalize (behindMainWord (wordsSigns (ordN.map Char.ofNat))).tail = W
  simp only [strip_cut, List.head?_cons, some_cut, if_true]
theorem jo_final : (false == Try.prog.liftsFinal) = true := by
  unfold Program.liftsFinal
  rw [jo_lifts, ord_list, ord_words]
  generalize (behindMainWord (wordsSigns (ordN.map Char.ofNat))).tail = W
  kernel_rfl
theorem jo_make : (Try.prog.make == some .cut) = true := by
  rw [Program.make, ord_list, ord_words]
  generalize (behindMainWord (wordsSigns (ordN.map Char.ofNat))).tail = W
  simp only [cut_gc, cut_spec, cut_cut, Bool.or_self, Bool.true_or, if_true, Bool.false_eq_true, if_false]
  kernel_rfl
end Go.Proofs.Ytpobgjkmjlmafaa

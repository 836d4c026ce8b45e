/-
  No cell of these rows narrows 'for every input' (looked for: loops, veiled, ifaces, maps, wideKeys, modest, calm, conditions, laid).
  DERIVED. THE GIVEN ROWS OF THIS SEAT. 21 by the template 'for every input the law returns true; each argument reads behind the call as it read before'; 0 by the template 'total and deterministic' (their statements: YtpobgjkmjlmafaaTotals.lean).
  GIVEN WITH THE SEED: the statements are not yours to turn. If you find one false, say at which input.
  Laid BY PROGRAM, IN A SANDBOX (cutbox-rows.mjs): the forced cells as the released guide's own fill.sh prints them over the translation 92199467de934d27… (all of the seat's roots in one cut). By AI agents, Wed Nov 11 2026. No macro, syntax, notation, axiom, sorry.
-/
import Derived.Test.YtpobgjkmjlmafaaChecked
import GoSem.Claim
import GoSem.ClaimJoined
import GoSem.ClaimMapViews
import Derived.JoinedTies
import Derived.KernelRfl
namespace Go.Proofs.Ytpobgjkmjlmafaa
/- THE CELL 'sum', in the pinned program and in every row, IS THE sha256 OF THE DUMP (.gsa) THAT YtpobgjkmjlmafaaProg.lean LOADS. Nothing in Lean hashes anything: it is a label: what it is worth is what the hold of that sum in a sandbox is worth. -/
noncomputable def Try.pinned : Pinned := { name := "ytpobgjkmjlmafaa", sum := "92199467de934d279383962df2868a42d37777623fde0b81b494c0e7c5de055e", checked := Try.checked }
namespace Rows
def none {H : Type} : Left H := { results := [], args := [] }

/-- 'laws.FnExactPoolGone': WHATEVER THE INPUT: true; the input reads as it did. -/
def fnExactPoolGoneSpec : ChangeSpec := { name := "fnExactPoolGone", fn := fun _ => fun
  | [d1, d2] => { results := [.lit (.bool true)], args := [d1, d2] }
  | _ => none }
def fnExactPoolGoneRow : OpenClaim := { program := "ytpobgjkmjlmafaa", sum := "92199467de934d279383962df2868a42d37777623fde0b81b494c0e7c5de055e", func := "loop.example/garner/laws.FnExactPoolGone", spec := "fnExactPoolGone", unfollowed := true, recurses := true, apart := false }
def FnExactPoolGoneSaid : Prop := fnExactPoolGoneRow.holds Try.pinned (OpenSpec.ofChange fnExactPoolGoneSpec)

/-- ITS FALSE NEIGHBOUR: 'it returns false'. Refute it at one input. -/
def fnExactPoolGoneWrong : ChangeSpec := { name := "fnExactPoolGone", fn := fun _ => fun
  | [d1, d2] => { results := [.lit (.bool false)], args := [d1, d2] }
  | _ => none }
def FnExactPoolGoneWrongFalsely : Prop := fnExactPoolGoneRow.holds Try.pinned (OpenSpec.ofChange fnExactPoolGoneWrong)

/-- 'laws.FnPoolEmpty': WHATEVER THE INPUT: true; the input reads as it did. -/
def fnPoolEmptySpec : ChangeSpec := { name := "fnPoolEmpty", fn := fun _ => fun
  | [d] => { results := [.lit (.bool true)], args := [d] }
  | _ => none }
def fnPoolEmptyRow : OpenClaim := { program := "ytpobgjkmjlmafaa", sum := "92199467de934d279383962df2868a42d37777623fde0b81b494c0e7c5de055e", func := "loop.example/garner/laws.FnPoolEmpty", spec := "fnPoolEmpty", unfollowed := true, recurses := true, apart := false }
def FnPoolEmptySaid : Prop := fnPoolEmptyRow.holds Try.pinned (OpenSpec.ofChange fnPoolEmptySpec)

/-- ITS FALSE NEIGHBOUR: 'it returns false'. Refute it at one input. -/
def fnPoolEmptyWrong : ChangeSpec := { name := "fnPoolEmpty", fn := fun _ => fun
  | [d] => { results := [.lit (.bool false)], args := [d] }
  | _ => none }
def FnPoolEmptyWrongFalsely : Prop := fnPoolEmptyRow.holds Try.pinned (OpenSpec.ofChange fnPoolEmptyWrong)

/-- 'laws.FnGone': WHATEVER THE INPUT: true; the input reads as it did. -/
def fnGoneSpec : ChangeSpec := { name := "fnGone", fn := fun _ => fun
  | [d] => { results := [.lit (.bool true)], args := [d] }
  | _ => none }
def fnGoneRow : OpenClaim := { program := "ytpobgjkmjlmafaa", sum := "92199467de934d279383962df2868a42d37777623fde0b81b494c0e7c5de055e", func := "loop.example/garner/laws.FnGone", spec := "fnGone", unfollowed := true, recurses := true, apart := false }
def FnGoneSaid : Prop := fnGoneRow.holds Try.pinned (OpenSpec.ofChange fnGoneSpec)

/-- ITS FALSE NEIGHBOUR: 'it returns false'. Refute it at one input. -/
def fnGoneWrong : ChangeSpec := { name := "fnGone", fn := fun _ => fun
  | [d] => { results := [.lit (.bool false)], args := [d] }
  | _ => none }
def FnGoneWrongFalsely : Prop := fnGoneRow.holds Try.pinned (OpenSpec.ofChange fnGoneWrong)

/-- 'laws.FnExactPoolWrite': WHATEVER THE INPUT: true; the input reads as it did. -/
def fnExactPoolWriteSpec : ChangeSpec := { name := "fnExactPoolWrite", fn := fun _ => fun
  | [d1, d2, d3, d4] => { results := [.lit (.bool true)], args := [d1, d2, d3, d4] }
  | _ => none }
def fnExactPoolWriteRow : OpenClaim := { program := "ytpobgjkmjlmafaa", sum := "92199467de934d279383962df2868a42d37777623fde0b81b494c0e7c5de055e", func := "loop.example/garner/laws.FnExactPoolWrite", spec := "fnExactPoolWrite", unfollowed := true, recurses := true, apart := false }
def FnExactPoolWriteSaid : Prop := fnExactPoolWriteRow.holds Try.pinned (OpenSpec.ofChange fnExactPoolWriteSpec)

/-- ITS FALSE NEIGHBOUR: 'it returns false'. Refute it at one input. -/
def fnExactPoolWriteWrong : ChangeSpec := { name := "fnExactPoolWrite", fn := fun _ => fun
  | [d1, d2, d3, d4] => { results := [.lit (.bool false)], args := [d1, d2, d3, d4] }
  | _ => none }
def FnExactPoolWriteWrongFalsely : Prop := fnExactPoolWriteRow.holds Try.pinned (OpenSpec.ofChange fnExactPoolWriteWrong)

/-- 'laws.FnWriteRoom': WHATEVER THE INPUT: true; the input reads as it did. -/
def fnWriteRoomSpec : ChangeSpec := { name := "fnWriteRoom", fn := fun _ => fun
  | [d] => { results := [.lit (.bool true)], args := [d] }
  | _ => none }
def fnWriteRoomRow : OpenClaim := { program := "ytpobgjkmjlmafaa", sum := "92199467de934d279383962df2868a42d37777623fde0b81b494c0e7c5de055e", func := "loop.example/garner/laws.FnWriteRoom", spec := "fnWriteRoom", unfollowed := true, recurses := true, apart := false }
def FnWriteRoomSaid : Prop := fnWriteRoomRow.holds Try.pinned (OpenSpec.ofChange fnWriteRoomSpec)

/-- ITS FALSE NEIGHBOUR: 'it returns false'. Refute it at one input. -/
def fnWriteRoomWrong : ChangeSpec := { name := "fnWriteRoom", fn := fun _ => fun
  | [d] => { results := [.lit (.bool false)], args := [d] }
  | _ => none }
def FnWriteRoomWrongFalsely : Prop := fnWriteRoomRow.holds Try.pinned (OpenSpec.ofChange fnWriteRoomWrong)

/-- 'laws.FnWriteSame': WHATEVER THE INPUT: true; the input reads as it did. -/
def fnWriteSameSpec : ChangeSpec := { name := "fnWriteSame", fn := fun _ => fun
  | [d1, d2] => { results := [.lit (.bool true)], args := [d1, d2] }
  | _ => none }
def fnWriteSameRow : OpenClaim := { program := "ytpobgjkmjlmafaa", sum := "92199467de934d279383962df2868a42d37777623fde0b81b494c0e7c5de055e", func := "loop.example/garner/laws.FnWriteSame", spec := "fnWriteSame", unfollowed := true, recurses := true, apart := false }
def FnWriteSameSaid : Prop := fnWriteSameRow.holds Try.pinned (OpenSpec.ofChange fnWriteSameSpec)

/-- ITS FALSE NEIGHBOUR: 'it returns false'. Refute it at one input. -/
def fnWriteSameWrong : ChangeSpec := { name := "fnWriteSame", fn := fun _ => fun
  | [d1, d2] => { results := [.lit (.bool false)], args := [d1, d2] }
  | _ => none }
def FnWriteSameWrongFalsely : Prop := fnWriteSameRow.holds Try.pinned (OpenSpec.ofChange fnWriteSameWrong)

/-- 'laws.FnWriteRead': WHATEVER THE INPUT: true; the input reads as it did. -/
def fnWriteReadSpec : ChangeSpec := { name := "fnWriteRead", fn := fun _ => fun
  | [d] => { results := [.lit (.bool true)], args := [d] }
  | _ => none }
def fnWriteReadRow : OpenClaim := { program := "ytpobgjkmjlmafaa", sum := "92199467de934d279383962df2868a42d37777623fde0b81b494c0e7c5de055e", func := "loop.example/garner/laws.FnWriteRead", spec := "fnWriteRead", unfollowed := true, recurses := true, apart := false }
def FnWriteReadSaid : Prop := fnWriteReadRow.holds Try.pinned (OpenSpec.ofChange fnWriteReadSpec)

/-- ITS FALSE NEIGHBOUR: 'it returns false'. Refute it at one input. -/
def fnWriteReadWrong : ChangeSpec := { name := "fnWriteRead", fn := fun _ => fun
  | [d] => { results := [.lit (.bool false)], args := [d] }
  | _ => none }
def FnWriteReadWrongFalsely : Prop := fnWriteReadRow.holds Try.pinned (OpenSpec.ofChange fnWriteReadWrong)

/-- 'laws.FnWriteFree': WHATEVER THE INPUT: true; the input reads as it did. -/
def fnWriteFreeSpec : ChangeSpec := { name := "fnWriteFree", fn := fun _ => fun
  | [d] => { results := [.lit (.bool true)], args := [d] }
  | _ => none }
def fnWriteFreeRow : OpenClaim := { program := "ytpobgjkmjlmafaa", sum := "92199467de934d279383962df2868a42d37777623fde0b81b494c0e7c5de055e", func := "loop.example/garner/laws.FnWriteFree", spec := "fnWriteFree", unfollowed := true, recurses := true, apart := false }
def FnWriteFreeSaid : Prop := fnWriteFreeRow.holds Try.pinned (OpenSpec.ofChange fnWriteFreeSpec)

/-- ITS FALSE NEIGHBOUR: 'it returns false'. Refute it at one input. -/
def fnWriteFreeWrong : ChangeSpec := { name := "fnWriteFree", fn := fun _ => fun
  | [d] => { results := [.lit (.bool false)], args := [d] }
  | _ => none }
def FnWriteFreeWrongFalsely : Prop := fnWriteFreeRow.holds Try.pinned (OpenSpec.ofChange fnWriteFreeWrong)

/-- 'laws.FnWriteTwice': WHATEVER THE INPUT: true; the input reads as it did. -/
def fnWriteTwiceSpec : ChangeSpec := { name := "fnWriteTwice", fn := fun _ => fun
  | [d1, d2] => { results := [.lit (.bool true)], args := [d1, d2] }
  | _ => none }
def fnWriteTwiceRow : OpenClaim := { program := "ytpobgjkmjlmafaa", sum := "92199467de934d279383962df2868a42d37777623fde0b81b494c0e7c5de055e", func := "loop.example/garner/laws.FnWriteTwice", spec := "fnWriteTwice", unfollowed := true, recurses := true, apart := false }
def FnWriteTwiceSaid : Prop := fnWriteTwiceRow.holds Try.pinned (OpenSpec.ofChange fnWriteTwiceSpec)

/-- ITS FALSE NEIGHBOUR: 'it returns false'. Refute it at one input. -/
def fnWriteTwiceWrong : ChangeSpec := { name := "fnWriteTwice", fn := fun _ => fun
  | [d1, d2] => { results := [.lit (.bool false)], args := [d1, d2] }
  | _ => none }
def FnWriteTwiceWrongFalsely : Prop := fnWriteTwiceRow.holds Try.pinned (OpenSpec.ofChange fnWriteTwiceWrong)

/-- 'laws.FnExactPoolMake': WHATEVER THE INPUT: true; the input reads as it did. -/
def fnExactPoolMakeSpec : ChangeSpec := { name := "fnExactPoolMake", fn := fun _ => fun
  | [d1, d2, d3] => { results := [.lit (.bool true)], args := [d1, d2, d3] }
  | _ => none }
def fnExactPoolMakeRow : OpenClaim := { program := "ytpobgjkmjlmafaa", sum := "92199467de934d279383962df2868a42d37777623fde0b81b494c0e7c5de055e", func := "loop.example/garner/laws.FnExactPoolMake", spec := "fnExactPoolMake", inPlace := ["internal/bytealg.abigen_runtime_cmpstring", "slices.overlaps[loop.example/garner/impl.Vol]"], unfollowed := true, recurses := true, apart := false }
def FnExactPoolMakeSaid : Prop := fnExactPoolMakeRow.holds Try.pinned (OpenSpec.ofChange fnExactPoolMakeSpec)

/-- ITS FALSE NEIGHBOUR: 'it returns false'. Refute it at one input. -/
def fnExactPoolMakeWrong : ChangeSpec := { name := "fnExactPoolMake", fn := fun _ => fun
  | [d1, d2, d3] => { results := [.lit (.bool false)], args := [d1, d2, d3] }
  | _ => none }
def FnExactPoolMakeWrongFalsely : Prop := fnExactPoolMakeRow.holds Try.pinned (OpenSpec.ofChange fnExactPoolMakeWrong)

/-- 'laws.FnMakeTwo': WHATEVER THE INPUT: true; the input reads as it did. -/
def fnMakeTwoSpec : ChangeSpec := { name := "fnMakeTwo", fn := fun _ => fun
  | [d1, d2] => { results := [.lit (.bool true)], args := [d1, d2] }
  | _ => none }
def fnMakeTwoRow : OpenClaim := { program := "ytpobgjkmjlmafaa", sum := "92199467de934d279383962df2868a42d37777623fde0b81b494c0e7c5de055e", func := "loop.example/garner/laws.FnMakeTwo", spec := "fnMakeTwo", inPlace := ["internal/bytealg.abigen_runtime_cmpstring", "slices.overlaps[loop.example/garner/impl.Vol]"], unfollowed := true, recurses := true, apart := false }
def FnMakeTwoSaid : Prop := fnMakeTwoRow.holds Try.pinned (OpenSpec.ofChange fnMakeTwoSpec)

/-- ITS FALSE NEIGHBOUR: 'it returns false'. Refute it at one input. -/
def fnMakeTwoWrong : ChangeSpec := { name := "fnMakeTwo", fn := fun _ => fun
  | [d1, d2] => { results := [.lit (.bool false)], args := [d1, d2] }
  | _ => none }
def FnMakeTwoWrongFalsely : Prop := fnMakeTwoRow.holds Try.pinned (OpenSpec.ofChange fnMakeTwoWrong)

/-- 'laws.FnExactPoolClone': WHATEVER THE INPUT: true; the input reads as it did. -/
def fnExactPoolCloneSpec : ChangeSpec := { name := "fnExactPoolClone", fn := fun _ => fun
  | [d1, d2, d3] => { results := [.lit (.bool true)], args := [d1, d2, d3] }
  | _ => none }
def fnExactPoolCloneRow : OpenClaim := { program := "ytpobgjkmjlmafaa", sum := "92199467de934d279383962df2868a42d37777623fde0b81b494c0e7c5de055e", func := "loop.example/garner/laws.FnExactPoolClone", spec := "fnExactPoolClone", inPlace := ["internal/bytealg.abigen_runtime_cmpstring", "slices.overlaps[loop.example/garner/impl.Vol]"], unfollowed := true, recurses := true, apart := false }
def FnExactPoolCloneSaid : Prop := fnExactPoolCloneRow.holds Try.pinned (OpenSpec.ofChange fnExactPoolCloneSpec)

/-- ITS FALSE NEIGHBOUR: 'it returns false'. Refute it at one input. -/
def fnExactPoolCloneWrong : ChangeSpec := { name := "fnExactPoolClone", fn := fun _ => fun
  | [d1, d2, d3] => { results := [.lit (.bool false)], args := [d1, d2, d3] }
  | _ => none }
def FnExactPoolCloneWrongFalsely : Prop := fnExactPoolCloneRow.holds Try.pinned (OpenSpec.ofChange fnExactPoolCloneWrong)

/-- 'laws.FnMake': WHATEVER THE INPUT: true; the input reads as it did. -/
def fnMakeSpec : ChangeSpec := { name := "fnMake", fn := fun _ => fun
  | [d] => { results := [.lit (.bool true)], args := [d] }
  | _ => none }
def fnMakeRow : OpenClaim := { program := "ytpobgjkmjlmafaa", sum := "92199467de934d279383962df2868a42d37777623fde0b81b494c0e7c5de055e", func := "loop.example/garner/laws.FnMake", spec := "fnMake", inPlace := ["internal/bytealg.abigen_runtime_cmpstring", "slices.overlaps[loop.example/garner/impl.Vol]"], unfollowed := true, recurses := true, apart := false }
def FnMakeSaid : Prop := fnMakeRow.holds Try.pinned (OpenSpec.ofChange fnMakeSpec)

/-- ITS FALSE NEIGHBOUR: 'it returns false'. Refute it at one input. -/
def fnMakeWrong : ChangeSpec := { name := "fnMake", fn := fun _ => fun
  | [d] => { results := [.lit (.bool false)], args := [d] }
  | _ => none }
def FnMakeWrongFalsely : Prop := fnMakeRow.holds Try.pinned (OpenSpec.ofChange fnMakeWrong)

/-- 'laws.FnCloneTwo': WHATEVER THE INPUT: true; the input reads as it did. -/
def fnCloneTwoSpec : ChangeSpec := { name := "fnCloneTwo", fn := fun _ => fun
  | [d] => { results := [.lit (.bool true)], args := [d] }
  | _ => none }
def fnCloneTwoRow : OpenClaim := { program := "ytpobgjkmjlmafaa", sum := "92199467de934d279383962df2868a42d37777623fde0b81b494c0e7c5de055e", func := "loop.example/garner/laws.FnCloneTwo", spec := "fnCloneTwo", inPlace := ["internal/bytealg.abigen_runtime_cmpstring", "slices.overlaps[loop.example/garner/impl.Vol]"], unfollowed := true, recurses := true, apart := false }
def FnCloneTwoSaid : Prop := fnCloneTwoRow.holds Try.pinned (OpenSpec.ofChange fnCloneTwoSpec)

/-- ITS FALSE NEIGHBOUR: 'it returns false'. Refute it at one input. -/
def fnCloneTwoWrong : ChangeSpec := { name := "fnCloneTwo", fn := fun _ => fun
  | [d] => { results := [.lit (.bool false)], args := [d] }
  | _ => none }
def FnCloneTwoWrongFalsely : Prop := fnCloneTwoRow.holds Try.pinned (OpenSpec.ofChange fnCloneTwoWrong)

/-- 'laws.FnClone': WHATEVER THE INPUT: true; the input reads as it did. -/
def fnCloneSpec : ChangeSpec := { name := "fnClone", fn := fun _ => fun
  | [d] => { results := [.lit (.bool true)], args := [d] }
  | _ => none }
def fnCloneRow : OpenClaim := { program := "ytpobgjkmjlmafaa", sum := "92199467de934d279383962df2868a42d37777623fde0b81b494c0e7c5de055e", func := "loop.example/garner/laws.FnClone", spec := "fnClone", inPlace := ["internal/bytealg.abigen_runtime_cmpstring", "slices.overlaps[loop.example/garner/impl.Vol]"], unfollowed := true, recurses := true, apart := false }
def FnCloneSaid : Prop := fnCloneRow.holds Try.pinned (OpenSpec.ofChange fnCloneSpec)

/-- ITS FALSE NEIGHBOUR: 'it returns false'. Refute it at one input. -/
def fnCloneWrong : ChangeSpec := { name := "fnClone", fn := fun _ => fun
  | [d] => { results := [.lit (.bool false)], args := [d] }
  | _ => none }
def FnCloneWrongFalsely : Prop := fnCloneRow.holds Try.pinned (OpenSpec.ofChange fnCloneWrong)

/-- 'laws.FnCloneGone': WHATEVER THE INPUT: true; the input reads as it did. -/
def fnCloneGoneSpec : ChangeSpec := { name := "fnCloneGone", fn := fun _ => fun
  | [d] => { results := [.lit (.bool true)], args := [d] }
  | _ => none }
def fnCloneGoneRow : OpenClaim := { program := "ytpobgjkmjlmafaa", sum := "92199467de934d279383962df2868a42d37777623fde0b81b494c0e7c5de055e", func := "loop.example/garner/laws.FnCloneGone", spec := "fnCloneGone", inPlace := ["internal/bytealg.abigen_runtime_cmpstring", "slices.overlaps[loop.example/garner/impl.Vol]"], unfollowed := true, recurses := true, apart := false }
def FnCloneGoneSaid : Prop := fnCloneGoneRow.holds Try.pinned (OpenSpec.ofChange fnCloneGoneSpec)

/-- ITS FALSE NEIGHBOUR: 'it returns false'. Refute it at one input. -/
def fnCloneGoneWrong : ChangeSpec := { name := "fnCloneGone", fn := fun _ => fun
  | [d] => { results := [.lit (.bool false)], args := [d] }
  | _ => none }
def FnCloneGoneWrongFalsely : Prop := fnCloneGoneRow.holds Try.pinned (OpenSpec.ofChange fnCloneGoneWrong)

/-- 'laws.FnGoneMake': WHATEVER THE INPUT: true; the input reads as it did. -/
def fnGoneMakeSpec : ChangeSpec := { name := "fnGoneMake", fn := fun _ => fun
  | [d] => { results := [.lit (.bool true)], args := [d] }
  | _ => none }
def fnGoneMakeRow : OpenClaim := { program := "ytpobgjkmjlmafaa", sum := "92199467de934d279383962df2868a42d37777623fde0b81b494c0e7c5de055e", func := "loop.example/garner/laws.FnGoneMake", spec := "fnGoneMake", inPlace := ["internal/bytealg.abigen_runtime_cmpstring", "slices.overlaps[loop.example/garner/impl.Vol]"], unfollowed := true, recurses := true, apart := false }
def FnGoneMakeSaid : Prop := fnGoneMakeRow.holds Try.pinned (OpenSpec.ofChange fnGoneMakeSpec)

/-- ITS FALSE NEIGHBOUR: 'it returns false'. Refute it at one input. -/
def fnGoneMakeWrong : ChangeSpec := { name := "fnGoneMake", fn := fun _ => fun
  | [d] => { results := [.lit (.bool false)], args := [d] }
  | _ => none }
def FnGoneMakeWrongFalsely : Prop := fnGoneMakeRow.holds Try.pinned (OpenSpec.ofChange fnGoneMakeWrong)

/-- 'laws.FnCloneWrite': WHATEVER THE INPUT: true; the input reads as it did. -/
def fnCloneWriteSpec : ChangeSpec := { name := "fnCloneWrite", fn := fun _ => fun
  | [d1, d2] => { results := [.lit (.bool true)], args := [d1, d2] }
  | _ => none }
def fnCloneWriteRow : OpenClaim := { program := "ytpobgjkmjlmafaa", sum := "92199467de934d279383962df2868a42d37777623fde0b81b494c0e7c5de055e", func := "loop.example/garner/laws.FnCloneWrite", spec := "fnCloneWrite", inPlace := ["internal/bytealg.abigen_runtime_cmpstring", "slices.overlaps[loop.example/garner/impl.Vol]"], unfollowed := true, recurses := true, apart := false }
def FnCloneWriteSaid : Prop := fnCloneWriteRow.holds Try.pinned (OpenSpec.ofChange fnCloneWriteSpec)

/-- ITS FALSE NEIGHBOUR: 'it returns false'. Refute it at one input. -/
def fnCloneWriteWrong : ChangeSpec := { name := "fnCloneWrite", fn := fun _ => fun
  | [d1, d2] => { results := [.lit (.bool false)], args := [d1, d2] }
  | _ => none }
def FnCloneWriteWrongFalsely : Prop := fnCloneWriteRow.holds Try.pinned (OpenSpec.ofChange fnCloneWriteWrong)

/-- 'laws.FnOpDo': WHATEVER THE INPUT: true; the input reads as it did. -/
def fnOpDoSpec : ChangeSpec := { name := "fnOpDo", fn := fun _ => fun
  | [d] => { results := [.lit (.bool true)], args := [d] }
  | _ => none }
def fnOpDoRow : OpenClaim := { program := "ytpobgjkmjlmafaa", sum := "92199467de934d279383962df2868a42d37777623fde0b81b494c0e7c5de055e", func := "loop.example/garner/laws.FnOpDo", spec := "fnOpDo", inPlace := ["internal/bytealg.abigen_runtime_cmpstring", "slices.overlaps[loop.example/garner/impl.Vol]"], unfollowed := true, recurses := true, apart := false }
def FnOpDoSaid : Prop := fnOpDoRow.holds Try.pinned (OpenSpec.ofChange fnOpDoSpec)

/-- ITS FALSE NEIGHBOUR: 'it returns false'. Refute it at one input. -/
def fnOpDoWrong : ChangeSpec := { name := "fnOpDo", fn := fun _ => fun
  | [d] => { results := [.lit (.bool false)], args := [d] }
  | _ => none }
def FnOpDoWrongFalsely : Prop := fnOpDoRow.holds Try.pinned (OpenSpec.ofChange fnOpDoWrong)

/-- 'laws.FnOpApart': WHATEVER THE INPUT: true; the input reads as it did. -/
def fnOpApartSpec : ChangeSpec := { name := "fnOpApart", fn := fun _ => fun
  | [d1, d2] => { results := [.lit (.bool true)], args := [d1, d2] }
  | _ => none }
def fnOpApartRow : OpenClaim := { program := "ytpobgjkmjlmafaa", sum := "92199467de934d279383962df2868a42d37777623fde0b81b494c0e7c5de055e", func := "loop.example/garner/laws.FnOpApart", spec := "fnOpApart", inPlace := ["internal/bytealg.abigen_runtime_cmpstring", "slices.overlaps[loop.example/garner/impl.Vol]"], unfollowed := true, recurses := true, apart := false }
def FnOpApartSaid : Prop := fnOpApartRow.holds Try.pinned (OpenSpec.ofChange fnOpApartSpec)

/-- ITS FALSE NEIGHBOUR: 'it returns false'. Refute it at one input. -/
def fnOpApartWrong : ChangeSpec := { name := "fnOpApart", fn := fun _ => fun
  | [d1, d2] => { results := [.lit (.bool false)], args := [d1, d2] }
  | _ => none }
def FnOpApartWrongFalsely : Prop := fnOpApartRow.holds Try.pinned (OpenSpec.ofChange fnOpApartWrong)

/-- 'laws.FnOpTwice': WHATEVER THE INPUT: true; the input reads as it did. -/
def fnOpTwiceSpec : ChangeSpec := { name := "fnOpTwice", fn := fun _ => fun
  | [d] => { results := [.lit (.bool true)], args := [d] }
  | _ => none }
def fnOpTwiceRow : OpenClaim := { program := "ytpobgjkmjlmafaa", sum := "92199467de934d279383962df2868a42d37777623fde0b81b494c0e7c5de055e", func := "loop.example/garner/laws.FnOpTwice", spec := "fnOpTwice", inPlace := ["internal/bytealg.abigen_runtime_cmpstring", "slices.overlaps[loop.example/garner/impl.Vol]"], unfollowed := true, recurses := true, apart := false }
def FnOpTwiceSaid : Prop := fnOpTwiceRow.holds Try.pinned (OpenSpec.ofChange fnOpTwiceSpec)

/-- ITS FALSE NEIGHBOUR: 'it returns false'. Refute it at one input. -/
def fnOpTwiceWrong : ChangeSpec := { name := "fnOpTwice", fn := fun _ => fun
  | [d] => { results := [.lit (.bool false)], args := [d] }
  | _ => none }
def FnOpTwiceWrongFalsely : Prop := fnOpTwiceRow.holds Try.pinned (OpenSpec.ofChange fnOpTwiceWrong)

/- THE SECOND FORM. 'bulk': how many values and letters a reading holds, each counted each time it is reached (what is shared counts as often as it is met; a slice's spare places count too). A statement '..UptoSaid' is the law's where the arguments, and the package variables that the reading takes, are together of bulk at most 1048576: NARROWER than '..Said'. Prove '..Said' where nothing that the law and all that it calls make is longer than what came in: it says more and counts as full. Else prove '..UptoSaid'. A law counts once. -/
mutual
def uptoBulk {H : Type} : DataW H → Nat
  | .lit (.string bytes) => bytes.length + 1
  | .lit _ => 1
  | .nil => 1
  | .ptr d => uptoBulk d + 1
  | .slice elems spare => uptoBulkAll elems + uptoBulkAll spare + 1
  | .agg parts => uptoBulkAll parts + 1
  | .iface _ d => uptoBulk d + 1
  | .map entries => uptoBulkEntries entries + 1
  | .held _ => 1
def uptoBulkAll {H : Type} : List (DataW H) → Nat
  | [] => 0
  | d :: r => uptoBulk d + uptoBulkAll r
def uptoBulkEntries {H : Type} : List (Lit × DataW H) → Nat
  | [] => 0
  | x :: r => uptoBulkEntry x + uptoBulkEntries r
def uptoBulkEntry {H : Type} : Lit × DataW H → Nat
  | (.string bytes, d) => bytes.length + uptoBulk d + 1
  | (_, d) => uptoBulk d + 1
 end
def uptoSmall : (H : Type) → List (DataW H) → Bool := fun _ ds => decide (uptoBulkAll ds ≤ 1048576)
def OpenSpec.upto (s : _root_.Go.ChangeSpec) : _root_.Go.OpenSpec := { _root_.Go.OpenSpec.ofChange s with cond := some uptoSmall }

/-- 'laws.FnExactPoolGone', WHERE WHAT IT READS IS OF BULK AT MOST 1048576: true; the input reads as it did. -/
def fnExactPoolGoneUptoRow : OpenClaim := { program := "ytpobgjkmjlmafaa", sum := "92199467de934d279383962df2868a42d37777623fde0b81b494c0e7c5de055e", func := "loop.example/garner/laws.FnExactPoolGone", spec := "fnExactPoolGone", unfollowed := true, recurses := true, apart := false, narrowed := true }
def FnExactPoolGoneUptoSaid : Prop := fnExactPoolGoneUptoRow.holds Try.pinned (OpenSpec.upto fnExactPoolGoneSpec)

/-- 'laws.FnPoolEmpty', WHERE WHAT IT READS IS OF BULK AT MOST 1048576: true; the input reads as it did. -/
def fnPoolEmptyUptoRow : OpenClaim := { program := "ytpobgjkmjlmafaa", sum := "92199467de934d279383962df2868a42d37777623fde0b81b494c0e7c5de055e", func := "loop.example/garner/laws.FnPoolEmpty", spec := "fnPoolEmpty", unfollowed := true, recurses := true, apart := false, narrowed := true }
def FnPoolEmptyUptoSaid : Prop := fnPoolEmptyUptoRow.holds Try.pinned (OpenSpec.upto fnPoolEmptySpec)

/-- 'laws.FnGone', WHERE WHAT IT READS IS OF BULK AT MOST 1048576: true; the input reads as it did. -/
def fnGoneUptoRow : OpenClaim := { program := "ytpobgjkmjlmafaa", sum := "92199467de934d279383962df2868a42d37777623fde0b81b494c0e7c5de055e", func := "loop.example/garner/laws.FnGone", spec := "fnGone", unfollowed := true, recurses := true, apart := false, narrowed := true }
def FnGoneUptoSaid : Prop := fnGoneUptoRow.holds Try.pinned (OpenSpec.upto fnGoneSpec)

/-- 'laws.FnExactPoolWrite', WHERE WHAT IT READS IS OF BULK AT MOST 1048576: true; the input reads as it did. -/
def fnExactPoolWriteUptoRow : OpenClaim := { program := "ytpobgjkmjlmafaa", sum := "92199467de934d279383962df2868a42d37777623fde0b81b494c0e7c5de055e", func := "loop.example/garner/laws.FnExactPoolWrite", spec := "fnExactPoolWrite", unfollowed := true, recurses := true, apart := false, narrowed := true }
def FnExactPoolWriteUptoSaid : Prop := fnExactPoolWriteUptoRow.holds Try.pinned (OpenSpec.upto fnExactPoolWriteSpec)

/-- 'laws.FnWriteRoom', WHERE WHAT IT READS IS OF BULK AT MOST 1048576: true; the input reads as it did. -/
def fnWriteRoomUptoRow : OpenClaim := { program := "ytpobgjkmjlmafaa", sum := "92199467de934d279383962df2868a42d37777623fde0b81b494c0e7c5de055e", func := "loop.example/garner/laws.FnWriteRoom", spec := "fnWriteRoom", unfollowed := true, recurses := true, apart := false, narrowed := true }
def FnWriteRoomUptoSaid : Prop := fnWriteRoomUptoRow.holds Try.pinned (OpenSpec.upto fnWriteRoomSpec)

/-- 'laws.FnWriteSame', WHERE WHAT IT READS IS OF BULK AT MOST 1048576: true; the input reads as it did. -/
def fnWriteSameUptoRow : OpenClaim := { program := "ytpobgjkmjlmafaa", sum := "92199467de934d279383962df2868a42d37777623fde0b81b494c0e7c5de055e", func := "loop.example/garner/laws.FnWriteSame", spec := "fnWriteSame", unfollowed := true, recurses := true, apart := false, narrowed := true }
def FnWriteSameUptoSaid : Prop := fnWriteSameUptoRow.holds Try.pinned (OpenSpec.upto fnWriteSameSpec)

/-- 'laws.FnWriteRead', WHERE WHAT IT READS IS OF BULK AT MOST 1048576: true; the input reads as it did. -/
def fnWriteReadUptoRow : OpenClaim := { program := "ytpobgjkmjlmafaa", sum := "92199467de934d279383962df2868a42d37777623fde0b81b494c0e7c5de055e", func := "loop.example/garner/laws.FnWriteRead", spec := "fnWriteRead", unfollowed := true, recurses := true, apart := false, narrowed := true }
def FnWriteReadUptoSaid : Prop := fnWriteReadUptoRow.holds Try.pinned (OpenSpec.upto fnWriteReadSpec)

/-- 'laws.FnWriteFree', WHERE WHAT IT READS IS OF BULK AT MOST 1048576: true; the input reads as it did. -/
def fnWriteFreeUptoRow : OpenClaim := { program := "ytpobgjkmjlmafaa", sum := "92199467de934d279383962df2868a42d37777623fde0b81b494c0e7c5de055e", func := "loop.example/garner/laws.FnWriteFree", spec := "fnWriteFree", unfollowed := true, recurses := true, apart := false, narrowed := true }
def FnWriteFreeUptoSaid : Prop := fnWriteFreeUptoRow.holds Try.pinned (OpenSpec.upto fnWriteFreeSpec)

/-- 'laws.FnWriteTwice', WHERE WHAT IT READS IS OF BULK AT MOST 1048576: true; the input reads as it did. -/
def fnWriteTwiceUptoRow : OpenClaim := { program := "ytpobgjkmjlmafaa", sum := "92199467de934d279383962df2868a42d37777623fde0b81b494c0e7c5de055e", func := "loop.example/garner/laws.FnWriteTwice", spec := "fnWriteTwice", unfollowed := true, recurses := true, apart := false, narrowed := true }
def FnWriteTwiceUptoSaid : Prop := fnWriteTwiceUptoRow.holds Try.pinned (OpenSpec.upto fnWriteTwiceSpec)

/-- 'laws.FnExactPoolMake', WHERE WHAT IT READS IS OF BULK AT MOST 1048576: true; the input reads as it did. -/
def fnExactPoolMakeUptoRow : OpenClaim := { program := "ytpobgjkmjlmafaa", sum := "92199467de934d279383962df2868a42d37777623fde0b81b494c0e7c5de055e", func := "loop.example/garner/laws.FnExactPoolMake", spec := "fnExactPoolMake", inPlace := ["internal/bytealg.abigen_runtime_cmpstring", "slices.overlaps[loop.example/garner/impl.Vol]"], unfollowed := true, recurses := true, apart := false, narrowed := true }
def FnExactPoolMakeUptoSaid : Prop := fnExactPoolMakeUptoRow.holds Try.pinned (OpenSpec.upto fnExactPoolMakeSpec)

/-- 'laws.FnMakeTwo', WHERE WHAT IT READS IS OF BULK AT MOST 1048576: true; the input reads as it did. -/
def fnMakeTwoUptoRow : OpenClaim := { program := "ytpobgjkmjlmafaa", sum := "92199467de934d279383962df2868a42d37777623fde0b81b494c0e7c5de055e", func := "loop.example/garner/laws.FnMakeTwo", spec := "fnMakeTwo", inPlace := ["internal/bytealg.abigen_runtime_cmpstring", "slices.overlaps[loop.example/garner/impl.Vol]"], unfollowed := true, recurses := true, apart := false, narrowed := true }
def FnMakeTwoUptoSaid : Prop := fnMakeTwoUptoRow.holds Try.pinned (OpenSpec.upto fnMakeTwoSpec)

/-- 'laws.FnExactPoolClone', WHERE WHAT IT READS IS OF BULK AT MOST 1048576: true; the input reads as it did. -/
def fnExactPoolCloneUptoRow : OpenClaim := { program := "ytpobgjkmjlmafaa", sum := "92199467de934d279383962df2868a42d37777623fde0b81b494c0e7c5de055e", func := "loop.example/garner/laws.FnExactPoolClone", spec := "fnExactPoolClone", inPlace := ["internal/bytealg.abigen_runtime_cmpstring", "slices.overlaps[loop.example/garner/impl.Vol]"], unfollowed := true, recurses := true, apart := false, narrowed := true }
def FnExactPoolCloneUptoSaid : Prop := fnExactPoolCloneUptoRow.holds Try.pinned (OpenSpec.upto fnExactPoolCloneSpec)

/-- 'laws.FnMake', WHERE WHAT IT READS IS OF BULK AT MOST 1048576: true; the input reads as it did. -/
def fnMakeUptoRow : OpenClaim := { program := "ytpobgjkmjlmafaa", sum := "92199467de934d279383962df2868a42d37777623fde0b81b494c0e7c5de055e", func := "loop.example/garner/laws.FnMake", spec := "fnMake", inPlace := ["internal/bytealg.abigen_runtime_cmpstring", "slices.overlaps[loop.example/garner/impl.Vol]"], unfollowed := true, recurses := true, apart := false, narrowed := true }
def FnMakeUptoSaid : Prop := fnMakeUptoRow.holds Try.pinned (OpenSpec.upto fnMakeSpec)

/-- 'laws.FnCloneTwo', WHERE WHAT IT READS IS OF BULK AT MOST 1048576: true; the input reads as it did. -/
def fnCloneTwoUptoRow : OpenClaim := { program := "ytpobgjkmjlmafaa", sum := "92199467de934d279383962df2868a42d37777623fde0b81b494c0e7c5de055e", func := "loop.example/garner/laws.FnCloneTwo", spec := "fnCloneTwo", inPlace := ["internal/bytealg.abigen_runtime_cmpstring", "slices.overlaps[loop.example/garner/impl.Vol]"], unfollowed := true, recurses := true, apart := false, narrowed := true }
def FnCloneTwoUptoSaid : Prop := fnCloneTwoUptoRow.holds Try.pinned (OpenSpec.upto fnCloneTwoSpec)

/-- 'laws.FnClone', WHERE WHAT IT READS IS OF BULK AT MOST 1048576: true; the input reads as it did. -/
def fnCloneUptoRow : OpenClaim := { program := "ytpobgjkmjlmafaa", sum := "92199467de934d279383962df2868a42d37777623fde0b81b494c0e7c5de055e", func := "loop.example/garner/laws.FnClone", spec := "fnClone", inPlace := ["internal/bytealg.abigen_runtime_cmpstring", "slices.overlaps[loop.example/garner/impl.Vol]"], unfollowed := true, recurses := true, apart := false, narrowed := true }
def FnCloneUptoSaid : Prop := fnCloneUptoRow.holds Try.pinned (OpenSpec.upto fnCloneSpec)

/-- 'laws.FnCloneGone', WHERE WHAT IT READS IS OF BULK AT MOST 1048576: true; the input reads as it did. -/
def fnCloneGoneUptoRow : OpenClaim := { program := "ytpobgjkmjlmafaa", sum := "92199467de934d279383962df2868a42d37777623fde0b81b494c0e7c5de055e", func := "loop.example/garner/laws.FnCloneGone", spec := "fnCloneGone", inPlace := ["internal/bytealg.abigen_runtime_cmpstring", "slices.overlaps[loop.example/garner/impl.Vol]"], unfollowed := true, recurses := true, apart := false, narrowed := true }
def FnCloneGoneUptoSaid : Prop := fnCloneGoneUptoRow.holds Try.pinned (OpenSpec.upto fnCloneGoneSpec)

/-- 'laws.FnGoneMake', WHERE WHAT IT READS IS OF BULK AT MOST 1048576: true; the input reads as it did. -/
def fnGoneMakeUptoRow : OpenClaim := { program := "ytpobgjkmjlmafaa", sum := "92199467de934d279383962df2868a42d37777623fde0b81b494c0e7c5de055e", func := "loop.example/garner/laws.FnGoneMake", spec := "fnGoneMake", inPlace := ["internal/bytealg.abigen_runtime_cmpstring", "slices.overlaps[loop.example/garner/impl.Vol]"], unfollowed := true, recurses := true, apart := false, narrowed := true }
def FnGoneMakeUptoSaid : Prop := fnGoneMakeUptoRow.holds Try.pinned (OpenSpec.upto fnGoneMakeSpec)

/-- 'laws.FnCloneWrite', WHERE WHAT IT READS IS OF BULK AT MOST 1048576: true; the input reads as it did. -/
def fnCloneWriteUptoRow : OpenClaim := { program := "ytpobgjkmjlmafaa", sum := "92199467de934d279383962df2868a42d37777623fde0b81b494c0e7c5de055e", func := "loop.example/garner/laws.FnCloneWrite", spec := "fnCloneWrite", inPlace := ["internal/bytealg.abigen_runtime_cmpstring", "slices.overlaps[loop.example/garner/impl.Vol]"], unfollowed := true, recurses := true, apart := false, narrowed := true }
def FnCloneWriteUptoSaid : Prop := fnCloneWriteUptoRow.holds Try.pinned (OpenSpec.upto fnCloneWriteSpec)

/-- 'laws.FnOpDo', WHERE WHAT IT READS IS OF BULK AT MOST 1048576: true; the input reads as it did. -/
def fnOpDoUptoRow : OpenClaim := { program := "ytpobgjkmjlmafaa", sum := "92199467de934d279383962df2868a42d37777623fde0b81b494c0e7c5de055e", func := "loop.example/garner/laws.FnOpDo", spec := "fnOpDo", inPlace := ["internal/bytealg.abigen_runtime_cmpstring", "slices.overlaps[loop.example/garner/impl.Vol]"], unfollowed := true, recurses := true, apart := false, narrowed := true }
def FnOpDoUptoSaid : Prop := fnOpDoUptoRow.holds Try.pinned (OpenSpec.upto fnOpDoSpec)

/-- 'laws.FnOpApart', WHERE WHAT IT READS IS OF BULK AT MOST 1048576: true; the input reads as it did. -/
def fnOpApartUptoRow : OpenClaim := { program := "ytpobgjkmjlmafaa", sum := "92199467de934d279383962df2868a42d37777623fde0b81b494c0e7c5de055e", func := "loop.example/garner/laws.FnOpApart", spec := "fnOpApart", inPlace := ["internal/bytealg.abigen_runtime_cmpstring", "slices.overlaps[loop.example/garner/impl.Vol]"], unfollowed := true, recurses := true, apart := false, narrowed := true }
def FnOpApartUptoSaid : Prop := fnOpApartUptoRow.holds Try.pinned (OpenSpec.upto fnOpApartSpec)

/-- 'laws.FnOpTwice', WHERE WHAT IT READS IS OF BULK AT MOST 1048576: true; the input reads as it did. -/
def fnOpTwiceUptoRow : OpenClaim := { program := "ytpobgjkmjlmafaa", sum := "92199467de934d279383962df2868a42d37777623fde0b81b494c0e7c5de055e", func := "loop.example/garner/laws.FnOpTwice", spec := "fnOpTwice", inPlace := ["internal/bytealg.abigen_runtime_cmpstring", "slices.overlaps[loop.example/garner/impl.Vol]"], unfollowed := true, recurses := true, apart := false, narrowed := true }
def FnOpTwiceUptoSaid : Prop := fnOpTwiceUptoRow.holds Try.pinned (OpenSpec.upto fnOpTwiceSpec)

end Rows
end Go.Proofs.Ytpobgjkmjlmafaa

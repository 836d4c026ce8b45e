/-
  No cell of these rows narrows 'for every input' (looked for: loops, veiled, ifaces, maps, wideKeys, modest, calm, conditions, laid).
  DERIVED. THE GIVEN ROWS OF THIS SEAT. 9 by the template 'for every input the law returns true; each argument reads behind the call as it read before'; 0 by the template 'total and deterministic' (their statements: YtljfoglilggkjaaGreatTotals.lean).
  GIVEN WITH THE SEED: the statements are not yours to turn. If you find one false, say at which input.
  Laid BY PROGRAM, IN A SANDBOX (cutbox-rows.mjs): the forced cells as the released guide's own fill.sh prints them over the translation 8c2ce5e9d9ba2f4e… (all of the seat's roots in one cut). By AI agents, Wed Nov 11 2026. No macro, syntax, notation, axiom, sorry.
-/
import Derived.Test.YtljfoglilggkjaaGreatChecked
import GoSem.Claim
import GoSem.ClaimJoined
import GoSem.ClaimMapViews
import Derived.JoinedTies
import Derived.KernelRfl
namespace Go.Proofs.YtljfoglilggkjaaGreat
/- THE CELL 'sum', in the pinned program and in every row, IS THE sha256 OF THE DUMP (.gsa) THAT YtljfoglilggkjaaGreatProg.lean LOADS. Nothing in Lean hashes anything: it is a label: what it is worth is what the hold of that sum in a sandbox is worth. -/
noncomputable def Tryz.pinned : Pinned := { name := "ytljfoglilggkjaagreat", sum := "8c2ce5e9d9ba2f4e2671a3b1409c9d7b51147349e76fb794cc3e3fb8ce2bf54a", checked := Tryz.checked }
namespace Rows
def none {H : Type} : Left H := { results := [], args := [] }

/-- 'laws.FnHearGap': WHATEVER THE INPUT: true; the input reads as it did. -/
def fnHearGapSpec : ChangeSpec := { name := "fnHearGap", fn := fun _ => fun
  | [d] => { results := [.lit (.bool true)], args := [d] }
  | _ => none }
def fnHearGapRow : OpenClaim := { program := "ytljfoglilggkjaagreat", sum := "8c2ce5e9d9ba2f4e2671a3b1409c9d7b51147349e76fb794cc3e3fb8ce2bf54a", func := "loop.example/garner/laws.FnHearGap", spec := "fnHearGap", inPlace := ["internal/bytealg.abigen_runtime_cmpstring", "slices.overlaps[loop.example/garner/impl.Vol]"], unfollowed := true, recurses := true, apart := false }
def FnHearGapSaid : Prop := fnHearGapRow.holds Tryz.pinned (OpenSpec.ofChange fnHearGapSpec)

/-- ITS FALSE NEIGHBOUR: 'it returns false'. Refute it at one input. -/
def fnHearGapWrong : ChangeSpec := { name := "fnHearGap", fn := fun _ => fun
  | [d] => { results := [.lit (.bool false)], args := [d] }
  | _ => none }
def FnHearGapWrongFalsely : Prop := fnHearGapRow.holds Tryz.pinned (OpenSpec.ofChange fnHearGapWrong)

/-- 'laws.FnHearJoin': WHATEVER THE INPUT: true; the input reads as it did. -/
def fnHearJoinSpec : ChangeSpec := { name := "fnHearJoin", fn := fun _ => fun
  | [d] => { results := [.lit (.bool true)], args := [d] }
  | _ => none }
def fnHearJoinRow : OpenClaim := { program := "ytljfoglilggkjaagreat", sum := "8c2ce5e9d9ba2f4e2671a3b1409c9d7b51147349e76fb794cc3e3fb8ce2bf54a", func := "loop.example/garner/laws.FnHearJoin", spec := "fnHearJoin", inPlace := ["internal/bytealg.abigen_runtime_cmpstring", "slices.overlaps[loop.example/garner/impl.Vol]"], unfollowed := true, recurses := true, apart := false }
def FnHearJoinSaid : Prop := fnHearJoinRow.holds Tryz.pinned (OpenSpec.ofChange fnHearJoinSpec)

/-- ITS FALSE NEIGHBOUR: 'it returns false'. Refute it at one input. -/
def fnHearJoinWrong : ChangeSpec := { name := "fnHearJoin", fn := fun _ => fun
  | [d] => { results := [.lit (.bool false)], args := [d] }
  | _ => none }
def FnHearJoinWrongFalsely : Prop := fnHearJoinRow.holds Tryz.pinned (OpenSpec.ofChange fnHearJoinWrong)

/-- 'laws.FnHearCopy': WHATEVER THE INPUT: true; the input reads as it did. -/
def fnHearCopySpec : ChangeSpec := { name := "fnHearCopy", fn := fun _ => fun
  | [d] => { results := [.lit (.bool true)], args := [d] }
  | _ => none }
def fnHearCopyRow : OpenClaim := { program := "ytljfoglilggkjaagreat", sum := "8c2ce5e9d9ba2f4e2671a3b1409c9d7b51147349e76fb794cc3e3fb8ce2bf54a", func := "loop.example/garner/laws.FnHearCopy", spec := "fnHearCopy", inPlace := ["internal/bytealg.abigen_runtime_cmpstring", "slices.overlaps[loop.example/garner/impl.Vol]"], unfollowed := true, recurses := true, apart := false }
def FnHearCopySaid : Prop := fnHearCopyRow.holds Tryz.pinned (OpenSpec.ofChange fnHearCopySpec)

/-- ITS FALSE NEIGHBOUR: 'it returns false'. Refute it at one input. -/
def fnHearCopyWrong : ChangeSpec := { name := "fnHearCopy", fn := fun _ => fun
  | [d] => { results := [.lit (.bool false)], args := [d] }
  | _ => none }
def FnHearCopyWrongFalsely : Prop := fnHearCopyRow.holds Tryz.pinned (OpenSpec.ofChange fnHearCopyWrong)

/-- 'laws.FnNodeLess': WHATEVER THE INPUT: true; the input reads as it did. -/
def fnNodeLessSpec : ChangeSpec := { name := "fnNodeLess", fn := fun _ => fun
  | [d1, d2] => { results := [.lit (.bool true)], args := [d1, d2] }
  | _ => none }
def fnNodeLessRow : OpenClaim := { program := "ytljfoglilggkjaagreat", sum := "8c2ce5e9d9ba2f4e2671a3b1409c9d7b51147349e76fb794cc3e3fb8ce2bf54a", func := "loop.example/garner/laws.FnNodeLess", spec := "fnNodeLess", inPlace := ["internal/bytealg.abigen_runtime_cmpstring", "slices.overlaps[loop.example/garner/impl.Vol]"], unfollowed := true, recurses := true, apart := false }
def FnNodeLessSaid : Prop := fnNodeLessRow.holds Tryz.pinned (OpenSpec.ofChange fnNodeLessSpec)

/-- ITS FALSE NEIGHBOUR: 'it returns false'. Refute it at one input. -/
def fnNodeLessWrong : ChangeSpec := { name := "fnNodeLess", fn := fun _ => fun
  | [d1, d2] => { results := [.lit (.bool false)], args := [d1, d2] }
  | _ => none }
def FnNodeLessWrongFalsely : Prop := fnNodeLessRow.holds Tryz.pinned (OpenSpec.ofChange fnNodeLessWrong)

/-- 'laws.FnNodePool': WHATEVER THE INPUT: true; the input reads as it did. -/
def fnNodePoolSpec : ChangeSpec := { name := "fnNodePool", fn := fun _ => fun
  | [d] => { results := [.lit (.bool true)], args := [d] }
  | _ => none }
def fnNodePoolRow : OpenClaim := { program := "ytljfoglilggkjaagreat", sum := "8c2ce5e9d9ba2f4e2671a3b1409c9d7b51147349e76fb794cc3e3fb8ce2bf54a", func := "loop.example/garner/laws.FnNodePool", spec := "fnNodePool", inPlace := ["internal/bytealg.abigen_runtime_cmpstring", "slices.overlaps[loop.example/garner/impl.Vol]"], unfollowed := true, recurses := true, apart := false }
def FnNodePoolSaid : Prop := fnNodePoolRow.holds Tryz.pinned (OpenSpec.ofChange fnNodePoolSpec)

/-- ITS FALSE NEIGHBOUR: 'it returns false'. Refute it at one input. -/
def fnNodePoolWrong : ChangeSpec := { name := "fnNodePool", fn := fun _ => fun
  | [d] => { results := [.lit (.bool false)], args := [d] }
  | _ => none }
def FnNodePoolWrongFalsely : Prop := fnNodePoolRow.holds Tryz.pinned (OpenSpec.ofChange fnNodePoolWrong)

/-- 'laws.FnExactWorldOk': WHATEVER THE INPUT: true; the input reads as it did. -/
def fnExactWorldOkSpec : ChangeSpec := { name := "fnExactWorldOk", fn := fun _ => fun
  | [d] => { results := [.lit (.bool true)], args := [d] }
  | _ => none }
def fnExactWorldOkRow : OpenClaim := { program := "ytljfoglilggkjaagreat", sum := "8c2ce5e9d9ba2f4e2671a3b1409c9d7b51147349e76fb794cc3e3fb8ce2bf54a", func := "loop.example/garner/laws.FnExactWorldOk", spec := "fnExactWorldOk", inPlace := ["internal/bytealg.abigen_runtime_cmpstring", "slices.overlaps[loop.example/garner/impl.Vol]"], unfollowed := true, recurses := true, apart := false }
def FnExactWorldOkSaid : Prop := fnExactWorldOkRow.holds Tryz.pinned (OpenSpec.ofChange fnExactWorldOkSpec)

/-- ITS FALSE NEIGHBOUR: 'it returns false'. Refute it at one input. -/
def fnExactWorldOkWrong : ChangeSpec := { name := "fnExactWorldOk", fn := fun _ => fun
  | [d] => { results := [.lit (.bool false)], args := [d] }
  | _ => none }
def FnExactWorldOkWrongFalsely : Prop := fnExactWorldOkRow.holds Tryz.pinned (OpenSpec.ofChange fnExactWorldOkWrong)

/-- 'laws.FnHearAgain': WHATEVER THE INPUT: true; the input reads as it did. -/
def fnHearAgainSpec : ChangeSpec := { name := "fnHearAgain", fn := fun _ => fun
  | [d] => { results := [.lit (.bool true)], args := [d] }
  | _ => none }
def fnHearAgainRow : OpenClaim := { program := "ytljfoglilggkjaagreat", sum := "8c2ce5e9d9ba2f4e2671a3b1409c9d7b51147349e76fb794cc3e3fb8ce2bf54a", func := "loop.example/garner/laws.FnHearAgain", spec := "fnHearAgain", inPlace := ["internal/bytealg.abigen_runtime_cmpstring", "slices.overlaps[loop.example/garner/impl.Vol]"], unfollowed := true, recurses := true, apart := false }
def FnHearAgainSaid : Prop := fnHearAgainRow.holds Tryz.pinned (OpenSpec.ofChange fnHearAgainSpec)

/-- ITS FALSE NEIGHBOUR: 'it returns false'. Refute it at one input. -/
def fnHearAgainWrong : ChangeSpec := { name := "fnHearAgain", fn := fun _ => fun
  | [d] => { results := [.lit (.bool false)], args := [d] }
  | _ => none }
def FnHearAgainWrongFalsely : Prop := fnHearAgainRow.holds Tryz.pinned (OpenSpec.ofChange fnHearAgainWrong)

/-- 'laws.FnHearDown': WHATEVER THE INPUT: true; the input reads as it did. -/
def fnHearDownSpec : ChangeSpec := { name := "fnHearDown", fn := fun _ => fun
  | [d] => { results := [.lit (.bool true)], args := [d] }
  | _ => none }
def fnHearDownRow : OpenClaim := { program := "ytljfoglilggkjaagreat", sum := "8c2ce5e9d9ba2f4e2671a3b1409c9d7b51147349e76fb794cc3e3fb8ce2bf54a", func := "loop.example/garner/laws.FnHearDown", spec := "fnHearDown", inPlace := ["internal/bytealg.abigen_runtime_cmpstring", "slices.overlaps[loop.example/garner/impl.Vol]"], unfollowed := true, recurses := true, apart := false }
def FnHearDownSaid : Prop := fnHearDownRow.holds Tryz.pinned (OpenSpec.ofChange fnHearDownSpec)

/-- ITS FALSE NEIGHBOUR: 'it returns false'. Refute it at one input. -/
def fnHearDownWrong : ChangeSpec := { name := "fnHearDown", fn := fun _ => fun
  | [d] => { results := [.lit (.bool false)], args := [d] }
  | _ => none }
def FnHearDownWrongFalsely : Prop := fnHearDownRow.holds Tryz.pinned (OpenSpec.ofChange fnHearDownWrong)

/-- 'laws.FnHearElder': WHATEVER THE INPUT: true; the input reads as it did. -/
def fnHearElderSpec : ChangeSpec := { name := "fnHearElder", fn := fun _ => fun
  | [d1, d2] => { results := [.lit (.bool true)], args := [d1, d2] }
  | _ => none }
def fnHearElderRow : OpenClaim := { program := "ytljfoglilggkjaagreat", sum := "8c2ce5e9d9ba2f4e2671a3b1409c9d7b51147349e76fb794cc3e3fb8ce2bf54a", func := "loop.example/garner/laws.FnHearElder", spec := "fnHearElder", inPlace := ["internal/bytealg.abigen_runtime_cmpstring", "slices.overlaps[loop.example/garner/impl.Vol]"], unfollowed := true, recurses := true, apart := false }
def FnHearElderSaid : Prop := fnHearElderRow.holds Tryz.pinned (OpenSpec.ofChange fnHearElderSpec)

/-- ITS FALSE NEIGHBOUR: 'it returns false'. Refute it at one input. -/
def fnHearElderWrong : ChangeSpec := { name := "fnHearElder", fn := fun _ => fun
  | [d1, d2] => { results := [.lit (.bool false)], args := [d1, d2] }
  | _ => none }
def FnHearElderWrongFalsely : Prop := fnHearElderRow.holds Tryz.pinned (OpenSpec.ofChange fnHearElderWrong)

/- THE SECOND FORM. 'bulk': how many values and letters a reading holds, each counted each time it is reached (what is shared counts as often as it is met; a slice's spare places count too). A statement '..UptoSaid' is the law's where the arguments, and the package variables that the reading takes, are together of bulk at most 1048576: NARROWER than '..Said'. Prove '..Said' where nothing that the law and all that it calls make is longer than what came in: it says more and counts as full. Else prove '..UptoSaid'. A law counts once. -/
mutual
def uptoBulk {H : Type} : DataW H → Nat
  | .lit (.string bytes) => bytes.length + 1
  | .lit _ => 1
  | .nil => 1
  | .ptr d => uptoBulk d + 1
  | .slice elems spare => uptoBulkAll elems + uptoBulkAll spare + 1
  | .agg parts => uptoBulkAll parts + 1
  | .iface _ d => uptoBulk d + 1
  | .map entries => uptoBulkEntries entries + 1
  | .held _ => 1
def uptoBulkAll {H : Type} : List (DataW H) → Nat
  | [] => 0
  | d :: r => uptoBulk d + uptoBulkAll r
def uptoBulkEntries {H : Type} : List (Lit × DataW H) → Nat
  | [] => 0
  | x :: r => uptoBulkEntry x + uptoBulkEntries r
def uptoBulkEntry {H : Type} : Lit × DataW H → Nat
  | (.string bytes, d) => bytes.length + uptoBulk d + 1
  | (_, d) => uptoBulk d + 1
 end
def uptoSmall : (H : Type) → List (DataW H) → Bool := fun _ ds => decide (uptoBulkAll ds ≤ 1048576)
def OpenSpec.upto (s : _root_.Go.ChangeSpec) : _root_.Go.OpenSpec := { _root_.Go.OpenSpec.ofChange s with cond := some uptoSmall }

/-- 'laws.FnHearGap', WHERE WHAT IT READS IS OF BULK AT MOST 1048576: true; the input reads as it did. -/
def fnHearGapUptoRow : OpenClaim := { program := "ytljfoglilggkjaagreat", sum := "8c2ce5e9d9ba2f4e2671a3b1409c9d7b51147349e76fb794cc3e3fb8ce2bf54a", func := "loop.example/garner/laws.FnHearGap", spec := "fnHearGap", inPlace := ["internal/bytealg.abigen_runtime_cmpstring", "slices.overlaps[loop.example/garner/impl.Vol]"], unfollowed := true, recurses := true, apart := false, narrowed := true }
def FnHearGapUptoSaid : Prop := fnHearGapUptoRow.holds Tryz.pinned (OpenSpec.upto fnHearGapSpec)

/-- 'laws.FnHearJoin', WHERE WHAT IT READS IS OF BULK AT MOST 1048576: true; the input reads as it did. -/
def fnHearJoinUptoRow : OpenClaim := { program := "ytljfoglilggkjaagreat", sum := "8c2ce5e9d9ba2f4e2671a3b1409c9d7b51147349e76fb794cc3e3fb8ce2bf54a", func := "loop.example/garner/laws.FnHearJoin", spec := "fnHearJoin", inPlace := ["internal/bytealg.abigen_runtime_cmpstring", "slices.overlaps[loop.example/garner/impl.Vol]"], unfollowed := true, recurses := true, apart := false, narrowed := true }
def FnHearJoinUptoSaid : Prop := fnHearJoinUptoRow.holds Tryz.pinned (OpenSpec.upto fnHearJoinSpec)

/-- 'laws.FnHearCopy', WHERE WHAT IT READS IS OF BULK AT MOST 1048576: true; the input reads as it did. -/
def fnHearCopyUptoRow : OpenClaim := { program := "ytljfoglilggkjaagreat", sum := "8c2ce5e9d9ba2f4e2671a3b1409c9d7b51147349e76fb794cc3e3fb8ce2bf54a", func := "loop.example/garner/laws.FnHearCopy", spec := "fnHearCopy", inPlace := ["internal/bytealg.abigen_runtime_cmpstring", "slices.overlaps[loop.example/garner/impl.Vol]"], unfollowed := true, recurses := true, apart := false, narrowed := true }
def FnHearCopyUptoSaid : Prop := fnHearCopyUptoRow.holds Tryz.pinned (OpenSpec.upto fnHearCopySpec)

/-- 'laws.FnNodeLess', WHERE WHAT IT READS IS OF BULK AT MOST 1048576: true; the input reads as it did. -/
def fnNodeLessUptoRow : OpenClaim := { program := "ytljfoglilggkjaagreat", sum := "8c2ce5e9d9ba2f4e2671a3b1409c9d7b51147349e76fb794cc3e3fb8ce2bf54a", func := "loop.example/garner/laws.FnNodeLess", spec := "fnNodeLess", inPlace := ["internal/bytealg.abigen_runtime_cmpstring", "slices.overlaps[loop.example/garner/impl.Vol]"], unfollowed := true, recurses := true, apart := false, narrowed := true }
def FnNodeLessUptoSaid : Prop := fnNodeLessUptoRow.holds Tryz.pinned (OpenSpec.upto fnNodeLessSpec)

/-- 'laws.FnNodePool', WHERE WHAT IT READS IS OF BULK AT MOST 1048576: true; the input reads as it did. -/
def fnNodePoolUptoRow : OpenClaim := { program := "ytljfoglilggkjaagreat", sum := "8c2ce5e9d9ba2f4e2671a3b1409c9d7b51147349e76fb794cc3e3fb8ce2bf54a", func := "loop.example/garner/laws.FnNodePool", spec := "fnNodePool", inPlace := ["internal/bytealg.abigen_runtime_cmpstring", "slices.overlaps[loop.example/garner/impl.Vol]"], unfollowed := true, recurses := true, apart := false, narrowed := true }
def FnNodePoolUptoSaid : Prop := fnNodePoolUptoRow.holds Tryz.pinned (OpenSpec.upto fnNodePoolSpec)

/-- 'laws.FnExactWorldOk', WHERE WHAT IT READS IS OF BULK AT MOST 1048576: true; the input reads as it did. -/
def fnExactWorldOkUptoRow : OpenClaim := { program := "ytljfoglilggkjaagreat", sum := "8c2ce5e9d9ba2f4e2671a3b1409c9d7b51147349e76fb794cc3e3fb8ce2bf54a", func := "loop.example/garner/laws.FnExactWorldOk", spec := "fnExactWorldOk", inPlace := ["internal/bytealg.abigen_runtime_cmpstring", "slices.overlaps[loop.example/garner/impl.Vol]"], unfollowed := true, recurses := true, apart := false, narrowed := true }
def FnExactWorldOkUptoSaid : Prop := fnExactWorldOkUptoRow.holds Tryz.pinned (OpenSpec.upto fnExactWorldOkSpec)

/-- 'laws.FnHearAgain', WHERE WHAT IT READS IS OF BULK AT MOST 1048576: true; the input reads as it did. -/
def fnHearAgainUptoRow : OpenClaim := { program := "ytljfoglilggkjaagreat", sum := "8c2ce5e9d9ba2f4e2671a3b1409c9d7b51147349e76fb794cc3e3fb8ce2bf54a", func := "loop.example/garner/laws.FnHearAgain", spec := "fnHearAgain", inPlace := ["internal/bytealg.abigen_runtime_cmpstring", "slices.overlaps[loop.example/garner/impl.Vol]"], unfollowed := true, recurses := true, apart := false, narrowed := true }
def FnHearAgainUptoSaid : Prop := fnHearAgainUptoRow.holds Tryz.pinned (OpenSpec.upto fnHearAgainSpec)

/-- 'laws.FnHearDown', WHERE WHAT IT READS IS OF BULK AT MOST 1048576: true; the input reads as it did. -/
def fnHearDownUptoRow : OpenClaim := { program := "ytljfoglilggkjaagreat", sum := "8c2ce5e9d9ba2f4e2671a3b1409c9d7b51147349e76fb794cc3e3fb8ce2bf54a", func := "loop.example/garner/laws.FnHearDown", spec := "fnHearDown", inPlace := ["internal/bytealg.abigen_runtime_cmpstring", "slices.overlaps[loop.example/garner/impl.Vol]"], unfollowed := true, recurses := true, apart := false, narrowed := true }
def FnHearDownUptoSaid : Prop := fnHearDownUptoRow.holds Tryz.pinned (OpenSpec.upto fnHearDownSpec)

/-- 'laws.FnHearElder', WHERE WHAT IT READS IS OF BULK AT MOST 1048576: true; the input reads as it did. -/
def fnHearElderUptoRow : OpenClaim := { program := "ytljfoglilggkjaagreat", sum := "8c2ce5e9d9ba2f4e2671a3b1409c9d7b51147349e76fb794cc3e3fb8ce2bf54a", func := "loop.example/garner/laws.FnHearElder", spec := "fnHearElder", inPlace := ["internal/bytealg.abigen_runtime_cmpstring", "slices.overlaps[loop.example/garner/impl.Vol]"], unfollowed := true, recurses := true, apart := false, narrowed := true }
def FnHearElderUptoSaid : Prop := fnHearElderUptoRow.holds Tryz.pinned (OpenSpec.upto fnHearElderSpec)

end Rows
end Go.Proofs.YtljfoglilggkjaaGreat

/-
  No cell of these rows narrows 'for every input' (looked for: loops, veiled, ifaces, maps, wideKeys, modest, calm, conditions, laid).
  DERIVED. THE GIVEN ROWS OF THIS SEAT. 7 by the template 'for every input the law returns true; each argument reads behind the call as it read before'; 0 by the template 'total and deterministic' (their statements: YtccllgpaafgjaaaTotals.lean).
  GIVEN WITH THE SEED: the statements are not yours to turn. If you find one false, say at which input.
  Laid BY PROGRAM, IN A SANDBOX (cutbox-rows.mjs): the forced cells as the released guide's own fill.sh prints them over the translation 26d6ca492b622539… (all of the seat's roots in one cut). By AI agents, Wed Nov 11 2026. No macro, syntax, notation, axiom, sorry.
-/
import Derived.Test.YtccllgpaafgjaaaChecked
import GoSem.Claim
import GoSem.ClaimJoined
import GoSem.ClaimMapViews
import Derived.JoinedTies
import Derived.KernelRfl
namespace Go.Proofs.Ytccllgpaafgjaaa
/- THE CELL 'sum', in the pinned program and in every row, IS THE sha256 OF THE DUMP (.gsa) THAT YtccllgpaafgjaaaProg.lean LOADS. Nothing in Lean hashes anything: it is a label: what it is worth is what the hold of that sum in a sandbox is worth. -/
noncomputable def Try.pinned : Pinned := { name := "ytccllgpaafgjaaa", sum := "26d6ca492b6225395e7a354f4de20f0fa1925a44b6c0a04afceede9c1002ce5c", checked := Try.checked }
namespace Rows
def none {H : Type} : Left H := { results := [], args := [] }

/-- 'laws.FnExactWorldNew': WHATEVER THE INPUT: true; the input reads as it did. -/
def fnExactWorldNewSpec : ChangeSpec := { name := "fnExactWorldNew", fn := fun _ => fun
  | [] => { results := [.lit (.bool true)], args := [] }
  | _ => none }
def fnExactWorldNewRow : OpenClaim := { program := "ytccllgpaafgjaaa", sum := "26d6ca492b6225395e7a354f4de20f0fa1925a44b6c0a04afceede9c1002ce5c", func := "loop.example/garner/laws.FnExactWorldNew", spec := "fnExactWorldNew", apart := false }
def FnExactWorldNewSaid : Prop := fnExactWorldNewRow.holds Try.pinned (OpenSpec.ofChange fnExactWorldNewSpec)

/-- ITS FALSE NEIGHBOUR: 'it returns false'. Refute it at one input. -/
def fnExactWorldNewWrong : ChangeSpec := { name := "fnExactWorldNew", fn := fun _ => fun
  | [] => { results := [.lit (.bool false)], args := [] }
  | _ => none }
def FnExactWorldNewWrongFalsely : Prop := fnExactWorldNewRow.holds Try.pinned (OpenSpec.ofChange fnExactWorldNewWrong)

/-- 'laws.FnNodeNew': WHATEVER THE INPUT: true; the input reads as it did. -/
def fnNodeNewSpec : ChangeSpec := { name := "fnNodeNew", fn := fun _ => fun
  | [d] => { results := [.lit (.bool true)], args := [d] }
  | _ => none }
def fnNodeNewRow : OpenClaim := { program := "ytccllgpaafgjaaa", sum := "26d6ca492b6225395e7a354f4de20f0fa1925a44b6c0a04afceede9c1002ce5c", func := "loop.example/garner/laws.FnNodeNew", spec := "fnNodeNew", inPlace := ["internal/bytealg.abigen_runtime_cmpstring", "slices.overlaps[loop.example/garner/impl.Vol]"], unfollowed := true, recurses := true, apart := false }
def FnNodeNewSaid : Prop := fnNodeNewRow.holds Try.pinned (OpenSpec.ofChange fnNodeNewSpec)

/-- ITS FALSE NEIGHBOUR: 'it returns false'. Refute it at one input. -/
def fnNodeNewWrong : ChangeSpec := { name := "fnNodeNew", fn := fun _ => fun
  | [d] => { results := [.lit (.bool false)], args := [d] }
  | _ => none }
def FnNodeNewWrongFalsely : Prop := fnNodeNewRow.holds Try.pinned (OpenSpec.ofChange fnNodeNewWrong)

/-- 'laws.FnExactNodeOk': WHATEVER THE INPUT: true; the input reads as it did. -/
def fnExactNodeOkSpec : ChangeSpec := { name := "fnExactNodeOk", fn := fun _ => fun
  | [d] => { results := [.lit (.bool true)], args := [d] }
  | _ => none }
def fnExactNodeOkRow : OpenClaim := { program := "ytccllgpaafgjaaa", sum := "26d6ca492b6225395e7a354f4de20f0fa1925a44b6c0a04afceede9c1002ce5c", func := "loop.example/garner/laws.FnExactNodeOk", spec := "fnExactNodeOk", inPlace := ["internal/bytealg.abigen_runtime_cmpstring", "slices.overlaps[loop.example/garner/impl.Vol]"], unfollowed := true, recurses := true, apart := false }
def FnExactNodeOkSaid : Prop := fnExactNodeOkRow.holds Try.pinned (OpenSpec.ofChange fnExactNodeOkSpec)

/-- ITS FALSE NEIGHBOUR: 'it returns false'. Refute it at one input. -/
def fnExactNodeOkWrong : ChangeSpec := { name := "fnExactNodeOk", fn := fun _ => fun
  | [d] => { results := [.lit (.bool false)], args := [d] }
  | _ => none }
def FnExactNodeOkWrongFalsely : Prop := fnExactNodeOkRow.holds Try.pinned (OpenSpec.ofChange fnExactNodeOkWrong)

/-- 'laws.FnLogLess': WHATEVER THE INPUT: true; the input reads as it did. -/
def fnLogLessSpec : ChangeSpec := { name := "fnLogLess", fn := fun _ => fun
  | [d1, d2] => { results := [.lit (.bool true)], args := [d1, d2] }
  | _ => none }
def fnLogLessRow : OpenClaim := { program := "ytccllgpaafgjaaa", sum := "26d6ca492b6225395e7a354f4de20f0fa1925a44b6c0a04afceede9c1002ce5c", func := "loop.example/garner/laws.FnLogLess", spec := "fnLogLess", inPlace := ["internal/bytealg.abigen_runtime_cmpstring", "slices.overlaps[loop.example/garner/impl.Vol]"], unfollowed := true, recurses := true, apart := false }
def FnLogLessSaid : Prop := fnLogLessRow.holds Try.pinned (OpenSpec.ofChange fnLogLessSpec)

/-- ITS FALSE NEIGHBOUR: 'it returns false'. Refute it at one input. -/
def fnLogLessWrong : ChangeSpec := { name := "fnLogLess", fn := fun _ => fun
  | [d1, d2] => { results := [.lit (.bool false)], args := [d1, d2] }
  | _ => none }
def FnLogLessWrongFalsely : Prop := fnLogLessRow.holds Try.pinned (OpenSpec.ofChange fnLogLessWrong)

/-- 'laws.FnLogPool': WHATEVER THE INPUT: true; the input reads as it did. -/
def fnLogPoolSpec : ChangeSpec := { name := "fnLogPool", fn := fun _ => fun
  | [d] => { results := [.lit (.bool true)], args := [d] }
  | _ => none }
def fnLogPoolRow : OpenClaim := { program := "ytccllgpaafgjaaa", sum := "26d6ca492b6225395e7a354f4de20f0fa1925a44b6c0a04afceede9c1002ce5c", func := "loop.example/garner/laws.FnLogPool", spec := "fnLogPool", inPlace := ["internal/bytealg.abigen_runtime_cmpstring", "slices.overlaps[loop.example/garner/impl.Vol]"], unfollowed := true, recurses := true, apart := false }
def FnLogPoolSaid : Prop := fnLogPoolRow.holds Try.pinned (OpenSpec.ofChange fnLogPoolSpec)

/-- ITS FALSE NEIGHBOUR: 'it returns false'. Refute it at one input. -/
def fnLogPoolWrong : ChangeSpec := { name := "fnLogPool", fn := fun _ => fun
  | [d] => { results := [.lit (.bool false)], args := [d] }
  | _ => none }
def FnLogPoolWrongFalsely : Prop := fnLogPoolRow.holds Try.pinned (OpenSpec.ofChange fnLogPoolWrong)

/-- 'laws.FnLogTwo': WHATEVER THE INPUT: true; the input reads as it did. -/
def fnLogTwoSpec : ChangeSpec := { name := "fnLogTwo", fn := fun _ => fun
  | [d1, d2] => { results := [.lit (.bool true)], args := [d1, d2] }
  | _ => none }
def fnLogTwoRow : OpenClaim := { program := "ytccllgpaafgjaaa", sum := "26d6ca492b6225395e7a354f4de20f0fa1925a44b6c0a04afceede9c1002ce5c", func := "loop.example/garner/laws.FnLogTwo", spec := "fnLogTwo", inPlace := ["internal/bytealg.abigen_runtime_cmpstring", "slices.overlaps[loop.example/garner/impl.Vol]"], unfollowed := true, recurses := true, apart := false }
def FnLogTwoSaid : Prop := fnLogTwoRow.holds Try.pinned (OpenSpec.ofChange fnLogTwoSpec)

/-- ITS FALSE NEIGHBOUR: 'it returns false'. Refute it at one input. -/
def fnLogTwoWrong : ChangeSpec := { name := "fnLogTwo", fn := fun _ => fun
  | [d1, d2] => { results := [.lit (.bool false)], args := [d1, d2] }
  | _ => none }
def FnLogTwoWrongFalsely : Prop := fnLogTwoRow.holds Try.pinned (OpenSpec.ofChange fnLogTwoWrong)

/-- 'laws.FnLogFall': WHATEVER THE INPUT: true; the input reads as it did. -/
def fnLogFallSpec : ChangeSpec := { name := "fnLogFall", fn := fun _ => fun
  | [d] => { results := [.lit (.bool true)], args := [d] }
  | _ => none }
def fnLogFallRow : OpenClaim := { program := "ytccllgpaafgjaaa", sum := "26d6ca492b6225395e7a354f4de20f0fa1925a44b6c0a04afceede9c1002ce5c", func := "loop.example/garner/laws.FnLogFall", spec := "fnLogFall", inPlace := ["internal/bytealg.abigen_runtime_cmpstring", "slices.overlaps[loop.example/garner/impl.Vol]"], unfollowed := true, recurses := true, apart := false }
def FnLogFallSaid : Prop := fnLogFallRow.holds Try.pinned (OpenSpec.ofChange fnLogFallSpec)

/-- ITS FALSE NEIGHBOUR: 'it returns false'. Refute it at one input. -/
def fnLogFallWrong : ChangeSpec := { name := "fnLogFall", fn := fun _ => fun
  | [d] => { results := [.lit (.bool false)], args := [d] }
  | _ => none }
def FnLogFallWrongFalsely : Prop := fnLogFallRow.holds Try.pinned (OpenSpec.ofChange fnLogFallWrong)

/- THE SECOND FORM. 'bulk': how many values and letters a reading holds, each counted each time it is reached (what is shared counts as often as it is met; a slice's spare places count too). A statement '..UptoSaid' is the law's where the arguments, and the package variables that the reading takes, are together of bulk at most 1048576: NARROWER than '..Said'. Prove '..Said' where nothing that the law and all that it calls make is longer than what came in: it says more and counts as full. Else prove '..UptoSaid'. A law counts once. -/
mutual
def uptoBulk {H : Type} : DataW H → Nat
  | .lit (.string bytes) => bytes.length + 1
  | .lit _ => 1
  | .nil => 1
  | .ptr d => uptoBulk d + 1
  | .slice elems spare => uptoBulkAll elems + uptoBulkAll spare + 1
  | .agg parts => uptoBulkAll parts + 1
  | .iface _ d => uptoBulk d + 1
  | .map entries => uptoBulkEntries entries + 1
  | .held _ => 1
def uptoBulkAll {H : Type} : List (DataW H) → Nat
  | [] => 0
  | d :: r => uptoBulk d + uptoBulkAll r
def uptoBulkEntries {H : Type} : List (Lit × DataW H) → Nat
  | [] => 0
  | x :: r => uptoBulkEntry x + uptoBulkEntries r
def uptoBulkEntry {H : Type} : Lit × DataW H → Nat
  | (.string bytes, d) => bytes.length + uptoBulk d + 1
  | (_, d) => uptoBulk d + 1
 end
def uptoSmall : (H : Type) → List (DataW H) → Bool := fun _ ds => decide (uptoBulkAll ds ≤ 1048576)
def OpenSpec.upto (s : _root_.Go.ChangeSpec) : _root_.Go.OpenSpec := { _root_.Go.OpenSpec.ofChange s with cond := some uptoSmall }

/-- 'laws.FnExactWorldNew', WHERE WHAT IT READS IS OF BULK AT MOST 1048576: true; the input reads as it did. -/
def fnExactWorldNewUptoRow : OpenClaim := { program := "ytccllgpaafgjaaa", sum := "26d6ca492b6225395e7a354f4de20f0fa1925a44b6c0a04afceede9c1002ce5c", func := "loop.example/garner/laws.FnExactWorldNew", spec := "fnExactWorldNew", apart := false, narrowed := true }
def FnExactWorldNewUptoSaid : Prop := fnExactWorldNewUptoRow.holds Try.pinned (OpenSpec.upto fnExactWorldNewSpec)

/-- 'laws.FnNodeNew', WHERE WHAT IT READS IS OF BULK AT MOST 1048576: true; the input reads as it did. -/
def fnNodeNewUptoRow : OpenClaim := { program := "ytccllgpaafgjaaa", sum := "26d6ca492b6225395e7a354f4de20f0fa1925a44b6c0a04afceede9c1002ce5c", func := "loop.example/garner/laws.FnNodeNew", spec := "fnNodeNew", inPlace := ["internal/bytealg.abigen_runtime_cmpstring", "slices.overlaps[loop.example/garner/impl.Vol]"], unfollowed := true, recurses := true, apart := false, narrowed := true }
def FnNodeNewUptoSaid : Prop := fnNodeNewUptoRow.holds Try.pinned (OpenSpec.upto fnNodeNewSpec)

/-- 'laws.FnExactNodeOk', WHERE WHAT IT READS IS OF BULK AT MOST 1048576: true; the input reads as it did. -/
def fnExactNodeOkUptoRow : OpenClaim := { program := "ytccllgpaafgjaaa", sum := "26d6ca492b6225395e7a354f4de20f0fa1925a44b6c0a04afceede9c1002ce5c", func := "loop.example/garner/laws.FnExactNodeOk", spec := "fnExactNodeOk", inPlace := ["internal/bytealg.abigen_runtime_cmpstring", "slices.overlaps[loop.example/garner/impl.Vol]"], unfollowed := true, recurses := true, apart := false, narrowed := true }
def FnExactNodeOkUptoSaid : Prop := fnExactNodeOkUptoRow.holds Try.pinned (OpenSpec.upto fnExactNodeOkSpec)

/-- 'laws.FnLogLess', WHERE WHAT IT READS IS OF BULK AT MOST 1048576: true; the input reads as it did. -/
def fnLogLessUptoRow : OpenClaim := { program := "ytccllgpaafgjaaa", sum := "26d6ca492b6225395e7a354f4de20f0fa1925a44b6c0a04afceede9c1002ce5c", func := "loop.example/garner/laws.FnLogLess", spec := "fnLogLess", inPlace := ["internal/bytealg.abigen_runtime_cmpstring", "slices.overlaps[loop.example/garner/impl.Vol]"], unfollowed := true, recurses := true, apart := false, narrowed := true }
def FnLogLessUptoSaid : Prop := fnLogLessUptoRow.holds Try.pinned (OpenSpec.upto fnLogLessSpec)

/-- 'laws.FnLogPool', WHERE WHAT IT READS IS OF BULK AT MOST 1048576: true; the input reads as it did. -/
def fnLogPoolUptoRow : OpenClaim := { program := "ytccllgpaafgjaaa", sum := "26d6ca492b6225395e7a354f4de20f0fa1925a44b6c0a04afceede9c1002ce5c", func := "loop.example/garner/laws.FnLogPool", spec := "fnLogPool", inPlace := ["internal/bytealg.abigen_runtime_cmpstring", "slices.overlaps[loop.example/garner/impl.Vol]"], unfollowed := true, recurses := true, apart := false, narrowed := true }
def FnLogPoolUptoSaid : Prop := fnLogPoolUptoRow.holds Try.pinned (OpenSpec.upto fnLogPoolSpec)

/-- 'laws.FnLogTwo', WHERE WHAT IT READS IS OF BULK AT MOST 1048576: true; the input reads as it did. -/
def fnLogTwoUptoRow : OpenClaim := { program := "ytccllgpaafgjaaa", sum := "26d6ca492b6225395e7a354f4de20f0fa1925a44b6c0a04afceede9c1002ce5c", func := "loop.example/garner/laws.FnLogTwo", spec := "fnLogTwo", inPlace := ["internal/bytealg.abigen_runtime_cmpstring", "slices.overlaps[loop.example/garner/impl.Vol]"], unfollowed := true, recurses := true, apart := false, narrowed := true }
def FnLogTwoUptoSaid : Prop := fnLogTwoUptoRow.holds Try.pinned (OpenSpec.upto fnLogTwoSpec)

/-- 'laws.FnLogFall', WHERE WHAT IT READS IS OF BULK AT MOST 1048576: true; the input reads as it did. -/
def fnLogFallUptoRow : OpenClaim := { program := "ytccllgpaafgjaaa", sum := "26d6ca492b6225395e7a354f4de20f0fa1925a44b6c0a04afceede9c1002ce5c", func := "loop.example/garner/laws.FnLogFall", spec := "fnLogFall", inPlace := ["internal/bytealg.abigen_runtime_cmpstring", "slices.overlaps[loop.example/garner/impl.Vol]"], unfollowed := true, recurses := true, apart := false, narrowed := true }
def FnLogFallUptoSaid : Prop := fnLogFallUptoRow.holds Try.pinned (OpenSpec.upto fnLogFallSpec)

end Rows
end Go.Proofs.Ytccllgpaafgjaaa

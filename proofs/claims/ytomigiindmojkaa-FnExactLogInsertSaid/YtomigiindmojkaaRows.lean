/-
  No cell of these rows narrows 'for every input' (looked for: loops, veiled, ifaces, maps, wideKeys, modest, calm, conditions, laid).
  DERIVED. THE GIVEN ROWS OF THIS SEAT. 8 by the template 'for every input the law returns true; each argument reads behind the call as it read before'; 0 by the template 'total and deterministic' (their statements: YtomigiindmojkaaTotals.lean).
  GIVEN WITH THE SEED: the statements are not yours to turn. If you find one false, say at which input.
  Laid BY PROGRAM, IN A SANDBOX (cutbox-rows.mjs): the forced cells as the released guide's own fill.sh prints them over the translation d058b195e8570921… (all of the seat's roots in one cut). By AI agents, Wed Nov 11 2026. No macro, syntax, notation, axiom, sorry.
-/
import Derived.Test.YtomigiindmojkaaChecked
import GoSem.Claim
import GoSem.ClaimJoined
import GoSem.ClaimMapViews
import Derived.JoinedTies
import Derived.KernelRfl
namespace Go.Proofs.Ytomigiindmojkaa
/- THE CELL 'sum', in the pinned program and in every row, IS THE sha256 OF THE DUMP (.gsa) THAT YtomigiindmojkaaProg.lean LOADS. Nothing in Lean hashes anything: it is a label: what it is worth is what the hold of that sum in a sandbox is worth. -/
noncomputable def Try.pinned : Pinned := { name := "ytomigiindmojkaa", sum := "d058b195e8570921b22fe7cc37f48a0aa938de577f22cdc1dbafea7ff9f34d4a", checked := Try.checked }
namespace Rows
def none {H : Type} : Left H := { results := [], args := [] }

/-- 'laws.FnExactValidOp': WHATEVER THE INPUT: true; the input reads as it did. -/
def fnExactValidOpSpec : ChangeSpec := { name := "fnExactValidOp", fn := fun _ => fun
  | [d] => { results := [.lit (.bool true)], args := [d] }
  | _ => none }
def fnExactValidOpRow : OpenClaim := { program := "ytomigiindmojkaa", sum := "d058b195e8570921b22fe7cc37f48a0aa938de577f22cdc1dbafea7ff9f34d4a", func := "loop.example/collabdoc/laws.FnExactValidOp", spec := "fnExactValidOp", unfollowed := true, recurses := true, apart := false }
def FnExactValidOpSaid : Prop := fnExactValidOpRow.holds Try.pinned (OpenSpec.ofChange fnExactValidOpSpec)

/-- ITS FALSE NEIGHBOUR: 'it returns false'. Refute it at one input. -/
def fnExactValidOpWrong : ChangeSpec := { name := "fnExactValidOp", fn := fun _ => fun
  | [d] => { results := [.lit (.bool false)], args := [d] }
  | _ => none }
def FnExactValidOpWrongFalsely : Prop := fnExactValidOpRow.holds Try.pinned (OpenSpec.ofChange fnExactValidOpWrong)

/-- 'laws.FnExactValidLog': WHATEVER THE INPUT: true; the input reads as it did. -/
def fnExactValidLogSpec : ChangeSpec := { name := "fnExactValidLog", fn := fun _ => fun
  | [d] => { results := [.lit (.bool true)], args := [d] }
  | _ => none }
def fnExactValidLogRow : OpenClaim := { program := "ytomigiindmojkaa", sum := "d058b195e8570921b22fe7cc37f48a0aa938de577f22cdc1dbafea7ff9f34d4a", func := "loop.example/collabdoc/laws.FnExactValidLog", spec := "fnExactValidLog", unfollowed := true, recurses := true, apart := false }
def FnExactValidLogSaid : Prop := fnExactValidLogRow.holds Try.pinned (OpenSpec.ofChange fnExactValidLogSpec)

/-- ITS FALSE NEIGHBOUR: 'it returns false'. Refute it at one input. -/
def fnExactValidLogWrong : ChangeSpec := { name := "fnExactValidLog", fn := fun _ => fun
  | [d] => { results := [.lit (.bool false)], args := [d] }
  | _ => none }
def FnExactValidLogWrongFalsely : Prop := fnExactValidLogRow.holds Try.pinned (OpenSpec.ofChange fnExactValidLogWrong)

/-- 'laws.FnExactLogVector': WHATEVER THE INPUT: true; the input reads as it did. -/
def fnExactLogVectorSpec : ChangeSpec := { name := "fnExactLogVector", fn := fun _ => fun
  | [d] => { results := [.lit (.bool true)], args := [d] }
  | _ => none }
def fnExactLogVectorRow : OpenClaim := { program := "ytomigiindmojkaa", sum := "d058b195e8570921b22fe7cc37f48a0aa938de577f22cdc1dbafea7ff9f34d4a", func := "loop.example/collabdoc/laws.FnExactLogVector", spec := "fnExactLogVector", unfollowed := true, recurses := true, apart := false }
def FnExactLogVectorSaid : Prop := fnExactLogVectorRow.holds Try.pinned (OpenSpec.ofChange fnExactLogVectorSpec)

/-- ITS FALSE NEIGHBOUR: 'it returns false'. Refute it at one input. -/
def fnExactLogVectorWrong : ChangeSpec := { name := "fnExactLogVector", fn := fun _ => fun
  | [d] => { results := [.lit (.bool false)], args := [d] }
  | _ => none }
def FnExactLogVectorWrongFalsely : Prop := fnExactLogVectorRow.holds Try.pinned (OpenSpec.ofChange fnExactLogVectorWrong)

/-- 'laws.FnExactActiveOps': WHATEVER THE INPUT: true; the input reads as it did. -/
def fnExactActiveOpsSpec : ChangeSpec := { name := "fnExactActiveOps", fn := fun _ => fun
  | [d] => { results := [.lit (.bool true)], args := [d] }
  | _ => none }
def fnExactActiveOpsRow : OpenClaim := { program := "ytomigiindmojkaa", sum := "d058b195e8570921b22fe7cc37f48a0aa938de577f22cdc1dbafea7ff9f34d4a", func := "loop.example/collabdoc/laws.FnExactActiveOps", spec := "fnExactActiveOps", unfollowed := true, recurses := true, apart := false }
def FnExactActiveOpsSaid : Prop := fnExactActiveOpsRow.holds Try.pinned (OpenSpec.ofChange fnExactActiveOpsSpec)

/-- ITS FALSE NEIGHBOUR: 'it returns false'. Refute it at one input. -/
def fnExactActiveOpsWrong : ChangeSpec := { name := "fnExactActiveOps", fn := fun _ => fun
  | [d] => { results := [.lit (.bool false)], args := [d] }
  | _ => none }
def FnExactActiveOpsWrongFalsely : Prop := fnExactActiveOpsRow.holds Try.pinned (OpenSpec.ofChange fnExactActiveOpsWrong)

/-- 'laws.FnExactLogMissing': WHATEVER THE INPUT: true; the input reads as it did. -/
def fnExactLogMissingSpec : ChangeSpec := { name := "fnExactLogMissing", fn := fun _ => fun
  | [d1, d2] => { results := [.lit (.bool true)], args := [d1, d2] }
  | _ => none }
def fnExactLogMissingRow : OpenClaim := { program := "ytomigiindmojkaa", sum := "d058b195e8570921b22fe7cc37f48a0aa938de577f22cdc1dbafea7ff9f34d4a", func := "loop.example/collabdoc/laws.FnExactLogMissing", spec := "fnExactLogMissing", unfollowed := true, recurses := true, apart := false }
def FnExactLogMissingSaid : Prop := fnExactLogMissingRow.holds Try.pinned (OpenSpec.ofChange fnExactLogMissingSpec)

/-- ITS FALSE NEIGHBOUR: 'it returns false'. Refute it at one input. -/
def fnExactLogMissingWrong : ChangeSpec := { name := "fnExactLogMissing", fn := fun _ => fun
  | [d1, d2] => { results := [.lit (.bool false)], args := [d1, d2] }
  | _ => none }
def FnExactLogMissingWrongFalsely : Prop := fnExactLogMissingRow.holds Try.pinned (OpenSpec.ofChange fnExactLogMissingWrong)

/-- 'laws.FnExactLogPrefix': WHATEVER THE INPUT: true; the input reads as it did. -/
def fnExactLogPrefixSpec : ChangeSpec := { name := "fnExactLogPrefix", fn := fun _ => fun
  | [d1, d2] => { results := [.lit (.bool true)], args := [d1, d2] }
  | _ => none }
def fnExactLogPrefixRow : OpenClaim := { program := "ytomigiindmojkaa", sum := "d058b195e8570921b22fe7cc37f48a0aa938de577f22cdc1dbafea7ff9f34d4a", func := "loop.example/collabdoc/laws.FnExactLogPrefix", spec := "fnExactLogPrefix", unfollowed := true, recurses := true, apart := false }
def FnExactLogPrefixSaid : Prop := fnExactLogPrefixRow.holds Try.pinned (OpenSpec.ofChange fnExactLogPrefixSpec)

/-- ITS FALSE NEIGHBOUR: 'it returns false'. Refute it at one input. -/
def fnExactLogPrefixWrong : ChangeSpec := { name := "fnExactLogPrefix", fn := fun _ => fun
  | [d1, d2] => { results := [.lit (.bool false)], args := [d1, d2] }
  | _ => none }
def FnExactLogPrefixWrongFalsely : Prop := fnExactLogPrefixRow.holds Try.pinned (OpenSpec.ofChange fnExactLogPrefixWrong)

/-- 'laws.FnExactLogInsert': WHATEVER THE INPUT: true; the input reads as it did. -/
def fnExactLogInsertSpec : ChangeSpec := { name := "fnExactLogInsert", fn := fun _ => fun
  | [d1, d2] => { results := [.lit (.bool true)], args := [d1, d2] }
  | _ => none }
def fnExactLogInsertRow : OpenClaim := { program := "ytomigiindmojkaa", sum := "d058b195e8570921b22fe7cc37f48a0aa938de577f22cdc1dbafea7ff9f34d4a", func := "loop.example/collabdoc/laws.FnExactLogInsert", spec := "fnExactLogInsert", unfollowed := true, recurses := true, apart := false }
def FnExactLogInsertSaid : Prop := fnExactLogInsertRow.holds Try.pinned (OpenSpec.ofChange fnExactLogInsertSpec)

/-- ITS FALSE NEIGHBOUR: 'it returns false'. Refute it at one input. -/
def fnExactLogInsertWrong : ChangeSpec := { name := "fnExactLogInsert", fn := fun _ => fun
  | [d1, d2] => { results := [.lit (.bool false)], args := [d1, d2] }
  | _ => none }
def FnExactLogInsertWrongFalsely : Prop := fnExactLogInsertRow.holds Try.pinned (OpenSpec.ofChange fnExactLogInsertWrong)

/-- 'laws.FnExactLogMerge': WHATEVER THE INPUT: true; the input reads as it did. -/
def fnExactLogMergeSpec : ChangeSpec := { name := "fnExactLogMerge", fn := fun _ => fun
  | [d1, d2] => { results := [.lit (.bool true)], args := [d1, d2] }
  | _ => none }
def fnExactLogMergeRow : OpenClaim := { program := "ytomigiindmojkaa", sum := "d058b195e8570921b22fe7cc37f48a0aa938de577f22cdc1dbafea7ff9f34d4a", func := "loop.example/collabdoc/laws.FnExactLogMerge", spec := "fnExactLogMerge", unfollowed := true, recurses := true, apart := false }
def FnExactLogMergeSaid : Prop := fnExactLogMergeRow.holds Try.pinned (OpenSpec.ofChange fnExactLogMergeSpec)

/-- ITS FALSE NEIGHBOUR: 'it returns false'. Refute it at one input. -/
def fnExactLogMergeWrong : ChangeSpec := { name := "fnExactLogMerge", fn := fun _ => fun
  | [d1, d2] => { results := [.lit (.bool false)], args := [d1, d2] }
  | _ => none }
def FnExactLogMergeWrongFalsely : Prop := fnExactLogMergeRow.holds Try.pinned (OpenSpec.ofChange fnExactLogMergeWrong)

/- THE SECOND FORM. 'bulk': how many values and letters a reading holds, each counted each time it is reached (what is shared counts as often as it is met; a slice's spare places count too). A statement '..UptoSaid' is the law's where the arguments, and the package variables that the reading takes, are together of bulk at most 1048576: NARROWER than '..Said'. Prove '..Said' where nothing that the law and all that it calls make is longer than what came in: it says more and counts as full. Else prove '..UptoSaid'. A law counts once. -/
mutual
def uptoBulk {H : Type} : DataW H → Nat
  | .lit (.string bytes) => bytes.length + 1
  | .lit _ => 1
  | .nil => 1
  | .ptr d => uptoBulk d + 1
  | .slice elems spare => uptoBulkAll elems + uptoBulkAll spare + 1
  | .agg parts => uptoBulkAll parts + 1
  | .iface _ d => uptoBulk d + 1
  | .map entries => uptoBulkEntries entries + 1
  | .held _ => 1
def uptoBulkAll {H : Type} : List (DataW H) → Nat
  | [] => 0
  | d :: r => uptoBulk d + uptoBulkAll r
def uptoBulkEntries {H : Type} : List (Lit × DataW H) → Nat
  | [] => 0
  | x :: r => uptoBulkEntry x + uptoBulkEntries r
def uptoBulkEntry {H : Type} : Lit × DataW H → Nat
  | (.string bytes, d) => bytes.length + uptoBulk d + 1
  | (_, d) => uptoBulk d + 1
 end
def uptoSmall : (H : Type) → List (DataW H) → Bool := fun _ ds => decide (uptoBulkAll ds ≤ 1048576)
def OpenSpec.upto (s : _root_.Go.ChangeSpec) : _root_.Go.OpenSpec := { _root_.Go.OpenSpec.ofChange s with cond := some uptoSmall }

/-- 'laws.FnExactValidOp', WHERE WHAT IT READS IS OF BULK AT MOST 1048576: true; the input reads as it did. -/
def fnExactValidOpUptoRow : OpenClaim := { program := "ytomigiindmojkaa", sum := "d058b195e8570921b22fe7cc37f48a0aa938de577f22cdc1dbafea7ff9f34d4a", func := "loop.example/collabdoc/laws.FnExactValidOp", spec := "fnExactValidOp", unfollowed := true, recurses := true, apart := false, narrowed := true }
def FnExactValidOpUptoSaid : Prop := fnExactValidOpUptoRow.holds Try.pinned (OpenSpec.upto fnExactValidOpSpec)

/-- 'laws.FnExactValidLog', WHERE WHAT IT READS IS OF BULK AT MOST 1048576: true; the input reads as it did. -/
def fnExactValidLogUptoRow : OpenClaim := { program := "ytomigiindmojkaa", sum := "d058b195e8570921b22fe7cc37f48a0aa938de577f22cdc1dbafea7ff9f34d4a", func := "loop.example/collabdoc/laws.FnExactValidLog", spec := "fnExactValidLog", unfollowed := true, recurses := true, apart := false, narrowed := true }
def FnExactValidLogUptoSaid : Prop := fnExactValidLogUptoRow.holds Try.pinned (OpenSpec.upto fnExactValidLogSpec)

/-- 'laws.FnExactLogVector', WHERE WHAT IT READS IS OF BULK AT MOST 1048576: true; the input reads as it did. -/
def fnExactLogVectorUptoRow : OpenClaim := { program := "ytomigiindmojkaa", sum := "d058b195e8570921b22fe7cc37f48a0aa938de577f22cdc1dbafea7ff9f34d4a", func := "loop.example/collabdoc/laws.FnExactLogVector", spec := "fnExactLogVector", unfollowed := true, recurses := true, apart := false, narrowed := true }
def FnExactLogVectorUptoSaid : Prop := fnExactLogVectorUptoRow.holds Try.pinned (OpenSpec.upto fnExactLogVectorSpec)

/-- 'laws.FnExactActiveOps', WHERE WHAT IT READS IS OF BULK AT MOST 1048576: true; the input reads as it did. -/
def fnExactActiveOpsUptoRow : OpenClaim := { program := "ytomigiindmojkaa", sum := "d058b195e8570921b22fe7cc37f48a0aa938de577f22cdc1dbafea7ff9f34d4a", func := "loop.example/collabdoc/laws.FnExactActiveOps", spec := "fnExactActiveOps", unfollowed := true, recurses := true, apart := false, narrowed := true }
def FnExactActiveOpsUptoSaid : Prop := fnExactActiveOpsUptoRow.holds Try.pinned (OpenSpec.upto fnExactActiveOpsSpec)

/-- 'laws.FnExactLogMissing', WHERE WHAT IT READS IS OF BULK AT MOST 1048576: true; the input reads as it did. -/
def fnExactLogMissingUptoRow : OpenClaim := { program := "ytomigiindmojkaa", sum := "d058b195e8570921b22fe7cc37f48a0aa938de577f22cdc1dbafea7ff9f34d4a", func := "loop.example/collabdoc/laws.FnExactLogMissing", spec := "fnExactLogMissing", unfollowed := true, recurses := true, apart := false, narrowed := true }
def FnExactLogMissingUptoSaid : Prop := fnExactLogMissingUptoRow.holds Try.pinned (OpenSpec.upto fnExactLogMissingSpec)

/-- 'laws.FnExactLogPrefix', WHERE WHAT IT READS IS OF BULK AT MOST 1048576: true; the input reads as it did. -/
def fnExactLogPrefixUptoRow : OpenClaim := { program := "ytomigiindmojkaa", sum := "d058b195e8570921b22fe7cc37f48a0aa938de577f22cdc1dbafea7ff9f34d4a", func := "loop.example/collabdoc/laws.FnExactLogPrefix", spec := "fnExactLogPrefix", unfollowed := true, recurses := true, apart := false, narrowed := true }
def FnExactLogPrefixUptoSaid : Prop := fnExactLogPrefixUptoRow.holds Try.pinned (OpenSpec.upto fnExactLogPrefixSpec)

/-- 'laws.FnExactLogInsert', WHERE WHAT IT READS IS OF BULK AT MOST 1048576: true; the input reads as it did. -/
def fnExactLogInsertUptoRow : OpenClaim := { program := "ytomigiindmojkaa", sum := "d058b195e8570921b22fe7cc37f48a0aa938de577f22cdc1dbafea7ff9f34d4a", func := "loop.example/collabdoc/laws.FnExactLogInsert", spec := "fnExactLogInsert", unfollowed := true, recurses := true, apart := false, narrowed := true }
def FnExactLogInsertUptoSaid : Prop := fnExactLogInsertUptoRow.holds Try.pinned (OpenSpec.upto fnExactLogInsertSpec)

/-- 'laws.FnExactLogMerge', WHERE WHAT IT READS IS OF BULK AT MOST 1048576: true; the input reads as it did. -/
def fnExactLogMergeUptoRow : OpenClaim := { program := "ytomigiindmojkaa", sum := "d058b195e8570921b22fe7cc37f48a0aa938de577f22cdc1dbafea7ff9f34d4a", func := "loop.example/collabdoc/laws.FnExactLogMerge", spec := "fnExactLogMerge", unfollowed := true, recurses := true, apart := false, narrowed := true }
def FnExactLogMergeUptoSaid : Prop := fnExactLogMergeUptoRow.holds Try.pinned (OpenSpec.upto fnExactLogMergeSpec)

end Rows
end Go.Proofs.Ytomigiindmojkaa

/-
  No cell of these rows narrows 'for every input' (looked for: loops, veiled, ifaces, maps, wideKeys, modest, calm, conditions, laid).
  DERIVED. THE GIVEN ROWS OF THIS SEAT. 6 by the template 'for every input the law returns true; each argument reads behind the call as it read before'; 0 by the template 'total and deterministic' (their statements: YtpjbkdhehdpapaaTotals.lean).
  GIVEN WITH THE SEED: the statements are not yours to turn. If you find one false, say at which input.
  Laid BY PROGRAM, IN A SANDBOX (cutbox-rows.mjs): the forced cells as the released guide's own fill.sh prints them over the translation b42c0b994a044791… (all of the seat's roots in one cut). By AI agents, Wed Nov 11 2026. No macro, syntax, notation, axiom, sorry.
-/
import Derived.Test.YtpjbkdhehdpapaaChecked
import GoSem.Claim
import GoSem.ClaimJoined
import GoSem.ClaimMapViews
import Derived.JoinedTies
import Derived.KernelRfl
namespace Go.Proofs.Ytpjbkdhehdpapaa
/- THE CELL 'sum', in the pinned program and in every row, IS THE sha256 OF THE DUMP (.gsa) THAT YtpjbkdhehdpapaaProg.lean LOADS. Nothing in Lean hashes anything: it is a label: what it is worth is what the hold of that sum in a sandbox is worth. -/
noncomputable def Try.pinned : Pinned := { name := "ytpjbkdhehdpapaa", sum := "b42c0b994a0447910becbac5ef2176d35acc38ffbbabc07971246514e3c256c0", checked := Try.checked }
namespace Rows
def none {H : Type} : Left H := { results := [], args := [] }

/-- 'laws.FnExactVectorMin': WHATEVER THE INPUT: true; the input reads as it did. -/
def fnExactVectorMinSpec : ChangeSpec := { name := "fnExactVectorMin", fn := fun _ => fun
  | [d1, d2] => { results := [.lit (.bool true)], args := [d1, d2] }
  | _ => none }
def fnExactVectorMinRow : OpenClaim := { program := "ytpjbkdhehdpapaa", sum := "b42c0b994a0447910becbac5ef2176d35acc38ffbbabc07971246514e3c256c0", func := "loop.example/collabdoc/laws.FnExactVectorMin", spec := "fnExactVectorMin", apart := false }
def FnExactVectorMinSaid : Prop := fnExactVectorMinRow.holds Try.pinned (OpenSpec.ofChange fnExactVectorMinSpec)

/-- ITS FALSE NEIGHBOUR: 'it returns false'. Refute it at one input. -/
def fnExactVectorMinWrong : ChangeSpec := { name := "fnExactVectorMin", fn := fun _ => fun
  | [d1, d2] => { results := [.lit (.bool false)], args := [d1, d2] }
  | _ => none }
def FnExactVectorMinWrongFalsely : Prop := fnExactVectorMinRow.holds Try.pinned (OpenSpec.ofChange fnExactVectorMinWrong)

/-- 'laws.FnExactDecodeStamp': WHATEVER THE INPUT: true; the input reads as it did. -/
def fnExactDecodeStampSpec : ChangeSpec := { name := "fnExactDecodeStamp", fn := fun _ => fun
  | [d] => { results := [.lit (.bool true)], args := [d] }
  | _ => none }
def fnExactDecodeStampRow : OpenClaim := { program := "ytpjbkdhehdpapaa", sum := "b42c0b994a0447910becbac5ef2176d35acc38ffbbabc07971246514e3c256c0", func := "loop.example/collabdoc/laws.FnExactDecodeStamp", spec := "fnExactDecodeStamp", recurses := true, apart := false }
def FnExactDecodeStampSaid : Prop := fnExactDecodeStampRow.holds Try.pinned (OpenSpec.ofChange fnExactDecodeStampSpec)

/-- ITS FALSE NEIGHBOUR: 'it returns false'. Refute it at one input. -/
def fnExactDecodeStampWrong : ChangeSpec := { name := "fnExactDecodeStamp", fn := fun _ => fun
  | [d] => { results := [.lit (.bool false)], args := [d] }
  | _ => none }
def FnExactDecodeStampWrongFalsely : Prop := fnExactDecodeStampRow.holds Try.pinned (OpenSpec.ofChange fnExactDecodeStampWrong)

/-- 'laws.FnNextStamp': WHATEVER THE INPUT: true; the input reads as it did. -/
def fnNextStampSpec : ChangeSpec := { name := "fnNextStamp", fn := fun _ => fun
  | [d1, d2] => { results := [.lit (.bool true)], args := [d1, d2] }
  | _ => none }
def fnNextStampRow : OpenClaim := { program := "ytpjbkdhehdpapaa", sum := "b42c0b994a0447910becbac5ef2176d35acc38ffbbabc07971246514e3c256c0", func := "loop.example/collabdoc/laws.FnNextStamp", spec := "fnNextStamp", apart := false }
def FnNextStampSaid : Prop := fnNextStampRow.holds Try.pinned (OpenSpec.ofChange fnNextStampSpec)

/-- ITS FALSE NEIGHBOUR: 'it returns false'. Refute it at one input. -/
def fnNextStampWrong : ChangeSpec := { name := "fnNextStamp", fn := fun _ => fun
  | [d1, d2] => { results := [.lit (.bool false)], args := [d1, d2] }
  | _ => none }
def FnNextStampWrongFalsely : Prop := fnNextStampRow.holds Try.pinned (OpenSpec.ofChange fnNextStampWrong)

/-- 'laws.FnVectorOrder': WHATEVER THE INPUT: true; the input reads as it did. -/
def fnVectorOrderSpec : ChangeSpec := { name := "fnVectorOrder", fn := fun _ => fun
  | [d1, d2] => { results := [.lit (.bool true)], args := [d1, d2] }
  | _ => none }
def fnVectorOrderRow : OpenClaim := { program := "ytpjbkdhehdpapaa", sum := "b42c0b994a0447910becbac5ef2176d35acc38ffbbabc07971246514e3c256c0", func := "loop.example/collabdoc/laws.FnVectorOrder", spec := "fnVectorOrder", apart := false }
def FnVectorOrderSaid : Prop := fnVectorOrderRow.holds Try.pinned (OpenSpec.ofChange fnVectorOrderSpec)

/-- ITS FALSE NEIGHBOUR: 'it returns false'. Refute it at one input. -/
def fnVectorOrderWrong : ChangeSpec := { name := "fnVectorOrder", fn := fun _ => fun
  | [d1, d2] => { results := [.lit (.bool false)], args := [d1, d2] }
  | _ => none }
def FnVectorOrderWrongFalsely : Prop := fnVectorOrderRow.holds Try.pinned (OpenSpec.ofChange fnVectorOrderWrong)

/-- 'laws.FnExactValidRows': WHATEVER THE INPUT: true; the input reads as it did. -/
def fnExactValidRowsSpec : ChangeSpec := { name := "fnExactValidRows", fn := fun _ => fun
  | [d] => { results := [.lit (.bool true)], args := [d] }
  | _ => none }
def fnExactValidRowsRow : OpenClaim := { program := "ytpjbkdhehdpapaa", sum := "b42c0b994a0447910becbac5ef2176d35acc38ffbbabc07971246514e3c256c0", func := "loop.example/collabdoc/laws.FnExactValidRows", spec := "fnExactValidRows", apart := false }
def FnExactValidRowsSaid : Prop := fnExactValidRowsRow.holds Try.pinned (OpenSpec.ofChange fnExactValidRowsSpec)

/-- ITS FALSE NEIGHBOUR: 'it returns false'. Refute it at one input. -/
def fnExactValidRowsWrong : ChangeSpec := { name := "fnExactValidRows", fn := fun _ => fun
  | [d] => { results := [.lit (.bool false)], args := [d] }
  | _ => none }
def FnExactValidRowsWrongFalsely : Prop := fnExactValidRowsRow.holds Try.pinned (OpenSpec.ofChange fnExactValidRowsWrong)

/-- 'laws.FnVectorLattice': WHATEVER THE INPUT: true; the input reads as it did. -/
def fnVectorLatticeSpec : ChangeSpec := { name := "fnVectorLattice", fn := fun _ => fun
  | [d1, d2] => { results := [.lit (.bool true)], args := [d1, d2] }
  | _ => none }
def fnVectorLatticeRow : OpenClaim := { program := "ytpjbkdhehdpapaa", sum := "b42c0b994a0447910becbac5ef2176d35acc38ffbbabc07971246514e3c256c0", func := "loop.example/collabdoc/laws.FnVectorLattice", spec := "fnVectorLattice", apart := false }
def FnVectorLatticeSaid : Prop := fnVectorLatticeRow.holds Try.pinned (OpenSpec.ofChange fnVectorLatticeSpec)

/-- ITS FALSE NEIGHBOUR: 'it returns false'. Refute it at one input. -/
def fnVectorLatticeWrong : ChangeSpec := { name := "fnVectorLattice", fn := fun _ => fun
  | [d1, d2] => { results := [.lit (.bool false)], args := [d1, d2] }
  | _ => none }
def FnVectorLatticeWrongFalsely : Prop := fnVectorLatticeRow.holds Try.pinned (OpenSpec.ofChange fnVectorLatticeWrong)

/- THE SECOND FORM. 'bulk': how many values and letters a reading holds, each counted each time it is reached (what is shared counts as often as it is met; a slice's spare places count too). A statement '..UptoSaid' is the law's where the arguments, and the package variables that the reading takes, are together of bulk at most 1048576: NARROWER than '..Said'. Prove '..Said' where nothing that the law and all that it calls make is longer than what came in: it says more and counts as full. Else prove '..UptoSaid'. A law counts once. -/
mutual
def uptoBulk {H : Type} : DataW H → Nat
  | .lit (.string bytes) => bytes.length + 1
  | .lit _ => 1
  | .nil => 1
  | .ptr d => uptoBulk d + 1
  | .slice elems spare => uptoBulkAll elems + uptoBulkAll spare + 1
  | .agg parts => uptoBulkAll parts + 1
  | .iface _ d => uptoBulk d + 1
  | .map entries => uptoBulkEntries entries + 1
  | .held _ => 1
def uptoBulkAll {H : Type} : List (DataW H) → Nat
  | [] => 0
  | d :: r => uptoBulk d + uptoBulkAll r
def uptoBulkEntries {H : Type} : List (Lit × DataW H) → Nat
  | [] => 0
  | x :: r => uptoBulkEntry x + uptoBulkEntries r
def uptoBulkEntry {H : Type} : Lit × DataW H → Nat
  | (.string bytes, d) => bytes.length + uptoBulk d + 1
  | (_, d) => uptoBulk d + 1
 end
def uptoSmall : (H : Type) → List (DataW H) → Bool := fun _ ds => decide (uptoBulkAll ds ≤ 1048576)
def OpenSpec.upto (s : _root_.Go.ChangeSpec) : _root_.Go.OpenSpec := { _root_.Go.OpenSpec.ofChange s with cond := some uptoSmall }

/-- 'laws.FnExactVectorMin', WHERE WHAT IT READS IS OF BULK AT MOST 1048576: true; the input reads as it did. -/
def fnExactVectorMinUptoRow : OpenClaim := { program := "ytpjbkdhehdpapaa", sum := "b42c0b994a0447910becbac5ef2176d35acc38ffbbabc07971246514e3c256c0", func := "loop.example/collabdoc/laws.FnExactVectorMin", spec := "fnExactVectorMin", apart := false, narrowed := true }
def FnExactVectorMinUptoSaid : Prop := fnExactVectorMinUptoRow.holds Try.pinned (OpenSpec.upto fnExactVectorMinSpec)

/-- 'laws.FnExactDecodeStamp', WHERE WHAT IT READS IS OF BULK AT MOST 1048576: true; the input reads as it did. -/
def fnExactDecodeStampUptoRow : OpenClaim := { program := "ytpjbkdhehdpapaa", sum := "b42c0b994a0447910becbac5ef2176d35acc38ffbbabc07971246514e3c256c0", func := "loop.example/collabdoc/laws.FnExactDecodeStamp", spec := "fnExactDecodeStamp", recurses := true, apart := false, narrowed := true }
def FnExactDecodeStampUptoSaid : Prop := fnExactDecodeStampUptoRow.holds Try.pinned (OpenSpec.upto fnExactDecodeStampSpec)

/-- 'laws.FnNextStamp', WHERE WHAT IT READS IS OF BULK AT MOST 1048576: true; the input reads as it did. -/
def fnNextStampUptoRow : OpenClaim := { program := "ytpjbkdhehdpapaa", sum := "b42c0b994a0447910becbac5ef2176d35acc38ffbbabc07971246514e3c256c0", func := "loop.example/collabdoc/laws.FnNextStamp", spec := "fnNextStamp", apart := false, narrowed := true }
def FnNextStampUptoSaid : Prop := fnNextStampUptoRow.holds Try.pinned (OpenSpec.upto fnNextStampSpec)

/-- 'laws.FnVectorOrder', WHERE WHAT IT READS IS OF BULK AT MOST 1048576: true; the input reads as it did. -/
def fnVectorOrderUptoRow : OpenClaim := { program := "ytpjbkdhehdpapaa", sum := "b42c0b994a0447910becbac5ef2176d35acc38ffbbabc07971246514e3c256c0", func := "loop.example/collabdoc/laws.FnVectorOrder", spec := "fnVectorOrder", apart := false, narrowed := true }
def FnVectorOrderUptoSaid : Prop := fnVectorOrderUptoRow.holds Try.pinned (OpenSpec.upto fnVectorOrderSpec)

/-- 'laws.FnExactValidRows', WHERE WHAT IT READS IS OF BULK AT MOST 1048576: true; the input reads as it did. -/
def fnExactValidRowsUptoRow : OpenClaim := { program := "ytpjbkdhehdpapaa", sum := "b42c0b994a0447910becbac5ef2176d35acc38ffbbabc07971246514e3c256c0", func := "loop.example/collabdoc/laws.FnExactValidRows", spec := "fnExactValidRows", apart := false, narrowed := true }
def FnExactValidRowsUptoSaid : Prop := fnExactValidRowsUptoRow.holds Try.pinned (OpenSpec.upto fnExactValidRowsSpec)

/-- 'laws.FnVectorLattice', WHERE WHAT IT READS IS OF BULK AT MOST 1048576: true; the input reads as it did. -/
def fnVectorLatticeUptoRow : OpenClaim := { program := "ytpjbkdhehdpapaa", sum := "b42c0b994a0447910becbac5ef2176d35acc38ffbbabc07971246514e3c256c0", func := "loop.example/collabdoc/laws.FnVectorLattice", spec := "fnVectorLattice", apart := false, narrowed := true }
def FnVectorLatticeUptoSaid : Prop := fnVectorLatticeUptoRow.holds Try.pinned (OpenSpec.upto fnVectorLatticeSpec)

end Rows
end Go.Proofs.Ytpjbkdhehdpapaa

/-
  No cell of these rows narrows 'for every input' (looked for: loops, veiled, ifaces, maps, wideKeys, modest, calm, conditions, laid).
  DERIVED. THE GIVEN ROWS OF THIS SEAT. 12 by the template 'for every input the law returns true; each argument reads behind the call as it read before'; 0 by the template 'total and deterministic' (their statements: YteloibbhcdfepaaTotals.lean).
  GIVEN WITH THE SEED: the statements are not yours to turn. If you find one false, say at which input.
  Laid BY PROGRAM, IN A SANDBOX (cutbox-rows.mjs): the forced cells as the released guide's own fill.sh prints them over the translation 762bc77c6cf345db… (all of the seat's roots in one cut). By AI agents, Wed Nov 11 2026. No macro, syntax, notation, axiom, sorry.
-/
import Derived.Test.YteloibbhcdfepaaChecked
import GoSem.Claim
import GoSem.ClaimJoined
import GoSem.ClaimMapViews
import Derived.JoinedTies
import Derived.KernelRfl
namespace Go.Proofs.Yteloibbhcdfepaa
/- THE CELL 'sum', in the pinned program and in every row, IS THE sha256 OF THE DUMP (.gsa) THAT YteloibbhcdfepaaProg.lean LOADS. Nothing in Lean hashes anything: it is a label: what it is worth is what the hold of that sum in a sandbox is worth. -/
noncomputable def Try.pinned : Pinned := { name := "yteloibbhcdfepaa", sum := "762bc77c6cf345dbcb28173ce04c8a59e823e056468d6f22905fc2757e92d0c2", checked := Try.checked }
namespace Rows
def none {H : Type} : Left H := { results := [], args := [] }

/-- 'laws.FnExactConstants': WHATEVER THE INPUT: true; the input reads as it did. -/
def fnExactConstantsSpec : ChangeSpec := { name := "fnExactConstants", fn := fun _ => fun
  | [] => { results := [.lit (.bool true)], args := [] }
  | _ => none }
def fnExactConstantsRow : OpenClaim := { program := "yteloibbhcdfepaa", sum := "762bc77c6cf345dbcb28173ce04c8a59e823e056468d6f22905fc2757e92d0c2", func := "loop.example/collabdoc/laws.FnExactConstants", spec := "fnExactConstants", apart := false }
def FnExactConstantsSaid : Prop := fnExactConstantsRow.holds Try.pinned (OpenSpec.ofChange fnExactConstantsSpec)

/-- ITS FALSE NEIGHBOUR: 'it returns false'. Refute it at one input. -/
def fnExactConstantsWrong : ChangeSpec := { name := "fnExactConstants", fn := fun _ => fun
  | [] => { results := [.lit (.bool false)], args := [] }
  | _ => none }
def FnExactConstantsWrongFalsely : Prop := fnExactConstantsRow.holds Try.pinned (OpenSpec.ofChange fnExactConstantsWrong)

/-- 'laws.FnExactStampLess': WHATEVER THE INPUT: true; the input reads as it did. -/
def fnExactStampLessSpec : ChangeSpec := { name := "fnExactStampLess", fn := fun _ => fun
  | [d1, d2] => { results := [.lit (.bool true)], args := [d1, d2] }
  | _ => none }
def fnExactStampLessRow : OpenClaim := { program := "yteloibbhcdfepaa", sum := "762bc77c6cf345dbcb28173ce04c8a59e823e056468d6f22905fc2757e92d0c2", func := "loop.example/collabdoc/laws.FnExactStampLess", spec := "fnExactStampLess", apart := false }
def FnExactStampLessSaid : Prop := fnExactStampLessRow.holds Try.pinned (OpenSpec.ofChange fnExactStampLessSpec)

/-- ITS FALSE NEIGHBOUR: 'it returns false'. Refute it at one input. -/
def fnExactStampLessWrong : ChangeSpec := { name := "fnExactStampLess", fn := fun _ => fun
  | [d1, d2] => { results := [.lit (.bool false)], args := [d1, d2] }
  | _ => none }
def FnExactStampLessWrongFalsely : Prop := fnExactStampLessRow.holds Try.pinned (OpenSpec.ofChange fnExactStampLessWrong)

/-- 'laws.FnExactValidStamp': WHATEVER THE INPUT: true; the input reads as it did. -/
def fnExactValidStampSpec : ChangeSpec := { name := "fnExactValidStamp", fn := fun _ => fun
  | [d] => { results := [.lit (.bool true)], args := [d] }
  | _ => none }
def fnExactValidStampRow : OpenClaim := { program := "yteloibbhcdfepaa", sum := "762bc77c6cf345dbcb28173ce04c8a59e823e056468d6f22905fc2757e92d0c2", func := "loop.example/collabdoc/laws.FnExactValidStamp", spec := "fnExactValidStamp", apart := false }
def FnExactValidStampSaid : Prop := fnExactValidStampRow.holds Try.pinned (OpenSpec.ofChange fnExactValidStampSpec)

/-- ITS FALSE NEIGHBOUR: 'it returns false'. Refute it at one input. -/
def fnExactValidStampWrong : ChangeSpec := { name := "fnExactValidStamp", fn := fun _ => fun
  | [d] => { results := [.lit (.bool false)], args := [d] }
  | _ => none }
def FnExactValidStampWrongFalsely : Prop := fnExactValidStampRow.holds Try.pinned (OpenSpec.ofChange fnExactValidStampWrong)

/-- 'laws.FnExactSchemaAllows': WHATEVER THE INPUT: true; the input reads as it did. -/
def fnExactSchemaAllowsSpec : ChangeSpec := { name := "fnExactSchemaAllows", fn := fun _ => fun
  | [d1, d2] => { results := [.lit (.bool true)], args := [d1, d2] }
  | _ => none }
def fnExactSchemaAllowsRow : OpenClaim := { program := "yteloibbhcdfepaa", sum := "762bc77c6cf345dbcb28173ce04c8a59e823e056468d6f22905fc2757e92d0c2", func := "loop.example/collabdoc/laws.FnExactSchemaAllows", spec := "fnExactSchemaAllows", apart := false }
def FnExactSchemaAllowsSaid : Prop := fnExactSchemaAllowsRow.holds Try.pinned (OpenSpec.ofChange fnExactSchemaAllowsSpec)

/-- ITS FALSE NEIGHBOUR: 'it returns false'. Refute it at one input. -/
def fnExactSchemaAllowsWrong : ChangeSpec := { name := "fnExactSchemaAllows", fn := fun _ => fun
  | [d1, d2] => { results := [.lit (.bool false)], args := [d1, d2] }
  | _ => none }
def FnExactSchemaAllowsWrongFalsely : Prop := fnExactSchemaAllowsRow.holds Try.pinned (OpenSpec.ofChange fnExactSchemaAllowsWrong)

/-- 'laws.FnExactValidVector': WHATEVER THE INPUT: true; the input reads as it did. -/
def fnExactValidVectorSpec : ChangeSpec := { name := "fnExactValidVector", fn := fun _ => fun
  | [d] => { results := [.lit (.bool true)], args := [d] }
  | _ => none }
def fnExactValidVectorRow : OpenClaim := { program := "yteloibbhcdfepaa", sum := "762bc77c6cf345dbcb28173ce04c8a59e823e056468d6f22905fc2757e92d0c2", func := "loop.example/collabdoc/laws.FnExactValidVector", spec := "fnExactValidVector", apart := false }
def FnExactValidVectorSaid : Prop := fnExactValidVectorRow.holds Try.pinned (OpenSpec.ofChange fnExactValidVectorSpec)

/-- ITS FALSE NEIGHBOUR: 'it returns false'. Refute it at one input. -/
def fnExactValidVectorWrong : ChangeSpec := { name := "fnExactValidVector", fn := fun _ => fun
  | [d] => { results := [.lit (.bool false)], args := [d] }
  | _ => none }
def FnExactValidVectorWrongFalsely : Prop := fnExactValidVectorRow.holds Try.pinned (OpenSpec.ofChange fnExactValidVectorWrong)

/-- 'laws.FnSchema': WHATEVER THE INPUT: true; the input reads as it did. -/
def fnSchemaSpec : ChangeSpec := { name := "fnSchema", fn := fun _ => fun
  | [d] => { results := [.lit (.bool true)], args := [d] }
  | _ => none }
def fnSchemaRow : OpenClaim := { program := "yteloibbhcdfepaa", sum := "762bc77c6cf345dbcb28173ce04c8a59e823e056468d6f22905fc2757e92d0c2", func := "loop.example/collabdoc/laws.FnSchema", spec := "fnSchema", apart := false }
def FnSchemaSaid : Prop := fnSchemaRow.holds Try.pinned (OpenSpec.ofChange fnSchemaSpec)

/-- ITS FALSE NEIGHBOUR: 'it returns false'. Refute it at one input. -/
def fnSchemaWrong : ChangeSpec := { name := "fnSchema", fn := fun _ => fun
  | [d] => { results := [.lit (.bool false)], args := [d] }
  | _ => none }
def FnSchemaWrongFalsely : Prop := fnSchemaRow.holds Try.pinned (OpenSpec.ofChange fnSchemaWrong)

/-- 'laws.FnStampTotalOrder': WHATEVER THE INPUT: true; the input reads as it did. -/
def fnStampTotalOrderSpec : ChangeSpec := { name := "fnStampTotalOrder", fn := fun _ => fun
  | [d1, d2] => { results := [.lit (.bool true)], args := [d1, d2] }
  | _ => none }
def fnStampTotalOrderRow : OpenClaim := { program := "yteloibbhcdfepaa", sum := "762bc77c6cf345dbcb28173ce04c8a59e823e056468d6f22905fc2757e92d0c2", func := "loop.example/collabdoc/laws.FnStampTotalOrder", spec := "fnStampTotalOrder", apart := false }
def FnStampTotalOrderSaid : Prop := fnStampTotalOrderRow.holds Try.pinned (OpenSpec.ofChange fnStampTotalOrderSpec)

/-- ITS FALSE NEIGHBOUR: 'it returns false'. Refute it at one input. -/
def fnStampTotalOrderWrong : ChangeSpec := { name := "fnStampTotalOrder", fn := fun _ => fun
  | [d1, d2] => { results := [.lit (.bool false)], args := [d1, d2] }
  | _ => none }
def FnStampTotalOrderWrongFalsely : Prop := fnStampTotalOrderRow.holds Try.pinned (OpenSpec.ofChange fnStampTotalOrderWrong)

/-- 'laws.FnExactVectorLessEqual': WHATEVER THE INPUT: true; the input reads as it did. -/
def fnExactVectorLessEqualSpec : ChangeSpec := { name := "fnExactVectorLessEqual", fn := fun _ => fun
  | [d1, d2] => { results := [.lit (.bool true)], args := [d1, d2] }
  | _ => none }
def fnExactVectorLessEqualRow : OpenClaim := { program := "yteloibbhcdfepaa", sum := "762bc77c6cf345dbcb28173ce04c8a59e823e056468d6f22905fc2757e92d0c2", func := "loop.example/collabdoc/laws.FnExactVectorLessEqual", spec := "fnExactVectorLessEqual", apart := false }
def FnExactVectorLessEqualSaid : Prop := fnExactVectorLessEqualRow.holds Try.pinned (OpenSpec.ofChange fnExactVectorLessEqualSpec)

/-- ITS FALSE NEIGHBOUR: 'it returns false'. Refute it at one input. -/
def fnExactVectorLessEqualWrong : ChangeSpec := { name := "fnExactVectorLessEqual", fn := fun _ => fun
  | [d1, d2] => { results := [.lit (.bool false)], args := [d1, d2] }
  | _ => none }
def FnExactVectorLessEqualWrongFalsely : Prop := fnExactVectorLessEqualRow.holds Try.pinned (OpenSpec.ofChange fnExactVectorLessEqualWrong)

/-- 'laws.FnExactVectorContains': WHATEVER THE INPUT: true; the input reads as it did. -/
def fnExactVectorContainsSpec : ChangeSpec := { name := "fnExactVectorContains", fn := fun _ => fun
  | [d1, d2] => { results := [.lit (.bool true)], args := [d1, d2] }
  | _ => none }
def fnExactVectorContainsRow : OpenClaim := { program := "yteloibbhcdfepaa", sum := "762bc77c6cf345dbcb28173ce04c8a59e823e056468d6f22905fc2757e92d0c2", func := "loop.example/collabdoc/laws.FnExactVectorContains", spec := "fnExactVectorContains", apart := false }
def FnExactVectorContainsSaid : Prop := fnExactVectorContainsRow.holds Try.pinned (OpenSpec.ofChange fnExactVectorContainsSpec)

/-- ITS FALSE NEIGHBOUR: 'it returns false'. Refute it at one input. -/
def fnExactVectorContainsWrong : ChangeSpec := { name := "fnExactVectorContains", fn := fun _ => fun
  | [d1, d2] => { results := [.lit (.bool false)], args := [d1, d2] }
  | _ => none }
def FnExactVectorContainsWrongFalsely : Prop := fnExactVectorContainsRow.holds Try.pinned (OpenSpec.ofChange fnExactVectorContainsWrong)

/-- 'laws.FnExactRunsText': WHATEVER THE INPUT: true; the input reads as it did. -/
def fnExactRunsTextSpec : ChangeSpec := { name := "fnExactRunsText", fn := fun _ => fun
  | [d] => { results := [.lit (.bool true)], args := [d] }
  | _ => none }
def fnExactRunsTextRow : OpenClaim := { program := "yteloibbhcdfepaa", sum := "762bc77c6cf345dbcb28173ce04c8a59e823e056468d6f22905fc2757e92d0c2", func := "loop.example/collabdoc/laws.FnExactRunsText", spec := "fnExactRunsText", apart := false }
def FnExactRunsTextSaid : Prop := fnExactRunsTextRow.holds Try.pinned (OpenSpec.ofChange fnExactRunsTextSpec)

/-- ITS FALSE NEIGHBOUR: 'it returns false'. Refute it at one input. -/
def fnExactRunsTextWrong : ChangeSpec := { name := "fnExactRunsText", fn := fun _ => fun
  | [d] => { results := [.lit (.bool false)], args := [d] }
  | _ => none }
def FnExactRunsTextWrongFalsely : Prop := fnExactRunsTextRow.holds Try.pinned (OpenSpec.ofChange fnExactRunsTextWrong)

/-- 'laws.FnExactNextStamp': WHATEVER THE INPUT: true; the input reads as it did. -/
def fnExactNextStampSpec : ChangeSpec := { name := "fnExactNextStamp", fn := fun _ => fun
  | [d1, d2] => { results := [.lit (.bool true)], args := [d1, d2] }
  | _ => none }
def fnExactNextStampRow : OpenClaim := { program := "yteloibbhcdfepaa", sum := "762bc77c6cf345dbcb28173ce04c8a59e823e056468d6f22905fc2757e92d0c2", func := "loop.example/collabdoc/laws.FnExactNextStamp", spec := "fnExactNextStamp", apart := false }
def FnExactNextStampSaid : Prop := fnExactNextStampRow.holds Try.pinned (OpenSpec.ofChange fnExactNextStampSpec)

/-- ITS FALSE NEIGHBOUR: 'it returns false'. Refute it at one input. -/
def fnExactNextStampWrong : ChangeSpec := { name := "fnExactNextStamp", fn := fun _ => fun
  | [d1, d2] => { results := [.lit (.bool false)], args := [d1, d2] }
  | _ => none }
def FnExactNextStampWrongFalsely : Prop := fnExactNextStampRow.holds Try.pinned (OpenSpec.ofChange fnExactNextStampWrong)

/-- 'laws.FnExactVectorMax': WHATEVER THE INPUT: true; the input reads as it did. -/
def fnExactVectorMaxSpec : ChangeSpec := { name := "fnExactVectorMax", fn := fun _ => fun
  | [d1, d2] => { results := [.lit (.bool true)], args := [d1, d2] }
  | _ => none }
def fnExactVectorMaxRow : OpenClaim := { program := "yteloibbhcdfepaa", sum := "762bc77c6cf345dbcb28173ce04c8a59e823e056468d6f22905fc2757e92d0c2", func := "loop.example/collabdoc/laws.FnExactVectorMax", spec := "fnExactVectorMax", apart := false }
def FnExactVectorMaxSaid : Prop := fnExactVectorMaxRow.holds Try.pinned (OpenSpec.ofChange fnExactVectorMaxSpec)

/-- ITS FALSE NEIGHBOUR: 'it returns false'. Refute it at one input. -/
def fnExactVectorMaxWrong : ChangeSpec := { name := "fnExactVectorMax", fn := fun _ => fun
  | [d1, d2] => { results := [.lit (.bool false)], args := [d1, d2] }
  | _ => none }
def FnExactVectorMaxWrongFalsely : Prop := fnExactVectorMaxRow.holds Try.pinned (OpenSpec.ofChange fnExactVectorMaxWrong)

/- THE SECOND FORM. 'bulk': how many values and letters a reading holds, each counted each time it is reached (what is shared counts as often as it is met; a slice's spare places count too). A statement '..UptoSaid' is the law's where the arguments, and the package variables that the reading takes, are together of bulk at most 1048576: NARROWER than '..Said'. Prove '..Said' where nothing that the law and all that it calls make is longer than what came in: it says more and counts as full. Else prove '..UptoSaid'. A law counts once. -/
mutual
def uptoBulk {H : Type} : DataW H → Nat
  | .lit (.string bytes) => bytes.length + 1
  | .lit _ => 1
  | .nil => 1
  | .ptr d => uptoBulk d + 1
  | .slice elems spare => uptoBulkAll elems + uptoBulkAll spare + 1
  | .agg parts => uptoBulkAll parts + 1
  | .iface _ d => uptoBulk d + 1
  | .map entries => uptoBulkEntries entries + 1
  | .held _ => 1
def uptoBulkAll {H : Type} : List (DataW H) → Nat
  | [] => 0
  | d :: r => uptoBulk d + uptoBulkAll r
def uptoBulkEntries {H : Type} : List (Lit × DataW H) → Nat
  | [] => 0
  | x :: r => uptoBulkEntry x + uptoBulkEntries r
def uptoBulkEntry {H : Type} : Lit × DataW H → Nat
  | (.string bytes, d) => bytes.length + uptoBulk d + 1
  | (_, d) => uptoBulk d + 1
 end
def uptoSmall : (H : Type) → List (DataW H) → Bool := fun _ ds => decide (uptoBulkAll ds ≤ 1048576)
def OpenSpec.upto (s : _root_.Go.ChangeSpec) : _root_.Go.OpenSpec := { _root_.Go.OpenSpec.ofChange s with cond := some uptoSmall }

/-- 'laws.FnExactConstants', WHERE WHAT IT READS IS OF BULK AT MOST 1048576: true; the input reads as it did. -/
def fnExactConstantsUptoRow : OpenClaim := { program := "yteloibbhcdfepaa", sum := "762bc77c6cf345dbcb28173ce04c8a59e823e056468d6f22905fc2757e92d0c2", func := "loop.example/collabdoc/laws.FnExactConstants", spec := "fnExactConstants", apart := false, narrowed := true }
def FnExactConstantsUptoSaid : Prop := fnExactConstantsUptoRow.holds Try.pinned (OpenSpec.upto fnExactConstantsSpec)

/-- 'laws.FnExactStampLess', WHERE WHAT IT READS IS OF BULK AT MOST 1048576: true; the input reads as it did. -/
def fnExactStampLessUptoRow : OpenClaim := { program := "yteloibbhcdfepaa", sum := "762bc77c6cf345dbcb28173ce04c8a59e823e056468d6f22905fc2757e92d0c2", func := "loop.example/collabdoc/laws.FnExactStampLess", spec := "fnExactStampLess", apart := false, narrowed := true }
def FnExactStampLessUptoSaid : Prop := fnExactStampLessUptoRow.holds Try.pinned (OpenSpec.upto fnExactStampLessSpec)

/-- 'laws.FnExactValidStamp', WHERE WHAT IT READS IS OF BULK AT MOST 1048576: true; the input reads as it did. -/
def fnExactValidStampUptoRow : OpenClaim := { program := "yteloibbhcdfepaa", sum := "762bc77c6cf345dbcb28173ce04c8a59e823e056468d6f22905fc2757e92d0c2", func := "loop.example/collabdoc/laws.FnExactValidStamp", spec := "fnExactValidStamp", apart := false, narrowed := true }
def FnExactValidStampUptoSaid : Prop := fnExactValidStampUptoRow.holds Try.pinned (OpenSpec.upto fnExactValidStampSpec)

/-- 'laws.FnExactSchemaAllows', WHERE WHAT IT READS IS OF BULK AT MOST 1048576: true; the input reads as it did. -/
def fnExactSchemaAllowsUptoRow : OpenClaim := { program := "yteloibbhcdfepaa", sum := "762bc77c6cf345dbcb28173ce04c8a59e823e056468d6f22905fc2757e92d0c2", func := "loop.example/collabdoc/laws.FnExactSchemaAllows", spec := "fnExactSchemaAllows", apart := false, narrowed := true }
def FnExactSchemaAllowsUptoSaid : Prop := fnExactSchemaAllowsUptoRow.holds Try.pinned (OpenSpec.upto fnExactSchemaAllowsSpec)

/-- 'laws.FnExactValidVector', WHERE WHAT IT READS IS OF BULK AT MOST 1048576: true; the input reads as it did. -/
def fnExactValidVectorUptoRow : OpenClaim := { program := "yteloibbhcdfepaa", sum := "762bc77c6cf345dbcb28173ce04c8a59e823e056468d6f22905fc2757e92d0c2", func := "loop.example/collabdoc/laws.FnExactValidVector", spec := "fnExactValidVector", apart := false, narrowed := true }
def FnExactValidVectorUptoSaid : Prop := fnExactValidVectorUptoRow.holds Try.pinned (OpenSpec.upto fnExactValidVectorSpec)

/-- 'laws.FnSchema', WHERE WHAT IT READS IS OF BULK AT MOST 1048576: true; the input reads as it did. -/
def fnSchemaUptoRow : OpenClaim := { program := "yteloibbhcdfepaa", sum := "762bc77c6cf345dbcb28173ce04c8a59e823e056468d6f22905fc2757e92d0c2", func := "loop.example/collabdoc/laws.FnSchema", spec := "fnSchema", apart := false, narrowed := true }
def FnSchemaUptoSaid : Prop := fnSchemaUptoRow.holds Try.pinned (OpenSpec.upto fnSchemaSpec)

/-- 'laws.FnStampTotalOrder', WHERE WHAT IT READS IS OF BULK AT MOST 1048576: true; the input reads as it did. -/
def fnStampTotalOrderUptoRow : OpenClaim := { program := "yteloibbhcdfepaa", sum := "762bc77c6cf345dbcb28173ce04c8a59e823e056468d6f22905fc2757e92d0c2", func := "loop.example/collabdoc/laws.FnStampTotalOrder", spec := "fnStampTotalOrder", apart := false, narrowed := true }
def FnStampTotalOrderUptoSaid : Prop := fnStampTotalOrderUptoRow.holds Try.pinned (OpenSpec.upto fnStampTotalOrderSpec)

/-- 'laws.FnExactVectorLessEqual', WHERE WHAT IT READS IS OF BULK AT MOST 1048576: true; the input reads as it did. -/
def fnExactVectorLessEqualUptoRow : OpenClaim := { program := "yteloibbhcdfepaa", sum := "762bc77c6cf345dbcb28173ce04c8a59e823e056468d6f22905fc2757e92d0c2", func := "loop.example/collabdoc/laws.FnExactVectorLessEqual", spec := "fnExactVectorLessEqual", apart := false, narrowed := true }
def FnExactVectorLessEqualUptoSaid : Prop := fnExactVectorLessEqualUptoRow.holds Try.pinned (OpenSpec.upto fnExactVectorLessEqualSpec)

/-- 'laws.FnExactVectorContains', WHERE WHAT IT READS IS OF BULK AT MOST 1048576: true; the input reads as it did. -/
def fnExactVectorContainsUptoRow : OpenClaim := { program := "yteloibbhcdfepaa", sum := "762bc77c6cf345dbcb28173ce04c8a59e823e056468d6f22905fc2757e92d0c2", func := "loop.example/collabdoc/laws.FnExactVectorContains", spec := "fnExactVectorContains", apart := false, narrowed := true }
def FnExactVectorContainsUptoSaid : Prop := fnExactVectorContainsUptoRow.holds Try.pinned (OpenSpec.upto fnExactVectorContainsSpec)

/-- 'laws.FnExactRunsText', WHERE WHAT IT READS IS OF BULK AT MOST 1048576: true; the input reads as it did. -/
def fnExactRunsTextUptoRow : OpenClaim := { program := "yteloibbhcdfepaa", sum := "762bc77c6cf345dbcb28173ce04c8a59e823e056468d6f22905fc2757e92d0c2", func := "loop.example/collabdoc/laws.FnExactRunsText", spec := "fnExactRunsText", apart := false, narrowed := true }
def FnExactRunsTextUptoSaid : Prop := fnExactRunsTextUptoRow.holds Try.pinned (OpenSpec.upto fnExactRunsTextSpec)

/-- 'laws.FnExactNextStamp', WHERE WHAT IT READS IS OF BULK AT MOST 1048576: true; the input reads as it did. -/
def fnExactNextStampUptoRow : OpenClaim := { program := "yteloibbhcdfepaa", sum := "762bc77c6cf345dbcb28173ce04c8a59e823e056468d6f22905fc2757e92d0c2", func := "loop.example/collabdoc/laws.FnExactNextStamp", spec := "fnExactNextStamp", apart := false, narrowed := true }
def FnExactNextStampUptoSaid : Prop := fnExactNextStampUptoRow.holds Try.pinned (OpenSpec.upto fnExactNextStampSpec)

/-- 'laws.FnExactVectorMax', WHERE WHAT IT READS IS OF BULK AT MOST 1048576: true; the input reads as it did. -/
def fnExactVectorMaxUptoRow : OpenClaim := { program := "yteloibbhcdfepaa", sum := "762bc77c6cf345dbcb28173ce04c8a59e823e056468d6f22905fc2757e92d0c2", func := "loop.example/collabdoc/laws.FnExactVectorMax", spec := "fnExactVectorMax", apart := false, narrowed := true }
def FnExactVectorMaxUptoSaid : Prop := fnExactVectorMaxUptoRow.holds Try.pinned (OpenSpec.upto fnExactVectorMaxSpec)

end Rows
end Go.Proofs.Yteloibbhcdfepaa

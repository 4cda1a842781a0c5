/- Proved here: a call of each of these functions of the program does what the Lean function of the same name says. Conditions: the premises of each theorem (what the arguments read as). Written by a program of this session over the print of the kit, repaired, and joined with texts by hand. -/
import Derived.Test.YtpjbkdhehdpapaaProg
import Derived.Below
import Derived.Deep.Draws
import Derived.Deep.AppendLies
import Derived.Maps.AppendAt
import Derived.OwnWalk
import Derived.Laws.BytesArg
import Derived.Laws.MakeOwn
import Derived.Laws.OwnMore
import Derived.Deep.OwnRows
import Derived.Tactics
import Derived.Lib.ConvBytes
import Derived.Laws.Slices
import Derived.WalkKit
import Derived.KernelRfl
import Derived.RowKit3
import Derived.Deep.LoopGhost
import Derived.Deep.QuietTactic
import Derived.BigQuiet
import Derived.WideLaws
import Derived.Deep.DeepCutAuto
import Derived.Deep.CutBlock
import Derived.Deep.RegionHeld3
import Derived.Laws.Rows
import Derived.Lib.AppendStr
import Derived.ArgAppend
import Derived.Laws.IdiomCopy
import Derived.OrdersHeld
import Derived.Laws.BitsLemmas
import Derived.RowKit
import Derived.Test.YtpjbkdhehdpapaaBase
import Derived.Test.YtpjbkdhehdpapaaWWords
import Derived.Test.YtpjbkdhehdpapaaWLast
import Derived.Test.YtpjbkdhehdpapaaWTab
import Derived.Test.YtpjbkdhehdpapaaWFour
import Derived.Test.YtpjbkdhehdpapaaWQPut
import Derived.Test.YtpjbkdhehdpapaaWApart
import Derived.Test.YtpjbkdhehdpapaaWArr
import Derived.Test.YtpjbkdhehdpapaaWZeros
import Derived.Test.YtpjbkdhehdpapaaWFoot
import Derived.Test.YtpjbkdhehdpapaaWKept
import Derived.Test.YtpjbkdhehdpapaaWShare
import Derived.Test.YtpjbkdhehdpapaaWN
import Derived.Test.YtpjbkdhehdpapaaWFootNe
import Derived.Test.YtpjbkdhehdpapaaWAt
import Derived.Test.YtpjbkdhehdpapaaWEqStruct
import Derived.Test.YtpjbkdhehdpapaaWRepsOne
import Derived.Test.YtpjbkdhehdpapaaWInv
import Derived.Test.YtpjbkdhehdpapaaWInvWords
import Derived.Test.YtpjbkdhehdpapaaWGuard
import Derived.Test.YtpjbkdhehdpapaaWNEv
import Derived.Test.YtpjbkdhehdpapaaWMore
namespace Go.Proofs.Ytpjbkdhehdpapaa.QO
open Go.Proofs.Ytpjbkdhehdpapaa.Base Go.RowKit Go.Proofs.YtpjbkdhehdpapaaW.PrintWords Go.Proofs.YtpjbkdhehdpapaaW.PrintLast Go.Proofs.YtpjbkdhehdpapaaW.PrintMore
attribute [local go_sem] max2_int min2_int max_two min_two max_three min_three max_four min_four   -- for this text's walks alone
set_option linter.unusedVariables false
set_option linter.unusedSimpArgs false



def errW : Option Int → Value
  | none => .nilIface
  | some c => .iface 0 (.int .i64 c)
theorem errW_none : errW none = .nilIface := rfl
theorem errW_some (c : Int) : errW (some c) = .iface 0 (.int .i64 c) := rfl

theorem info3 : (Try.prog.info? 3).map (fun i => (i.zero, i.size, i.bytes)) = some (some (.int .i64 0), 1, 8) := by kernel_rfl
theorem info5 : (Try.prog.info? 5).map (fun i => (i.zero, i.size, i.bytes)) = some (some (.int .u8 0), 1, 1) := by kernel_rfl
-- the values' own types

end Go.Proofs.Ytpjbkdhehdpapaa.QO

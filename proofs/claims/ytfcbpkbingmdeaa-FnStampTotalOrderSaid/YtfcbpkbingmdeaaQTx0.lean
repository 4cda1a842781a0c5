/- A call of each function named here does what the Lean function of that name says. Conditions: each theorem's premises. Printed by the kit, repaired by a program, joined with texts by hand. -/
import Derived.Test.YtfcbpkbingmdeaaProg
import Derived.Below
import Derived.Deep.Draws
import Derived.Deep.AppendLies
import Derived.Maps.AppendAt
import Derived.OwnWalk
import Derived.Laws.BytesArg
import Derived.Laws.MakeOwn
import Derived.Laws.OwnMore
import Derived.Deep.OwnRows
import Derived.Tactics
import Derived.Lib.ConvBytes
import Derived.Laws.Slices
import Derived.WalkKit
import Derived.KernelRfl
import Derived.RowKit3
import Derived.Deep.LoopGhost
import Derived.Deep.QuietTactic
import Derived.BigQuiet
import Derived.WideLaws
import Derived.Deep.DeepCutAuto
import Derived.Deep.CutBlock
import Derived.Deep.RegionHeld3
import Derived.Laws.Rows
import Derived.Lib.AppendStr
import Derived.ArgAppend
import Derived.Laws.IdiomCopy
import Derived.OrdersHeld
import Derived.Laws.BitsLemmas
import Derived.RowKit
import Derived.Laws.EntriesVeiled
import Derived.Test.YtfcbpkbingmdeaaBase
import Derived.Test.YtfcbpkbingmdeaaWWords
import Derived.Test.YtfcbpkbingmdeaaWLast
import Derived.Test.YtfcbpkbingmdeaaWTab
import Derived.Test.YtfcbpkbingmdeaaWFour
import Derived.Test.YtfcbpkbingmdeaaWQPut
import Derived.Test.YtfcbpkbingmdeaaWApart
import Derived.Test.YtfcbpkbingmdeaaWArr
import Derived.Test.YtfcbpkbingmdeaaWZeros
import Derived.Test.YtfcbpkbingmdeaaWFoot
import Derived.Test.YtfcbpkbingmdeaaWKept
import Derived.Test.YtfcbpkbingmdeaaWShare
import Derived.Test.YtfcbpkbingmdeaaWN
import Derived.Test.YtfcbpkbingmdeaaWFootNe
import Derived.Test.YtfcbpkbingmdeaaWAt
import Derived.Test.YtfcbpkbingmdeaaWEqStruct
import Derived.Test.YtfcbpkbingmdeaaWRepsOne
import Derived.Test.YtfcbpkbingmdeaaWInv
import Derived.Test.YtfcbpkbingmdeaaWInvWords
import Derived.Test.YtfcbpkbingmdeaaWGuard
import Derived.Test.YtfcbpkbingmdeaaWNEv
import Derived.Test.YtfcbpkbingmdeaaWMore
namespace Go.Proofs.Ytfcbpkbingmdeaa.QT
open Go.Proofs.Ytfcbpkbingmdeaa.Base Go.RowKit Go.Proofs.YtfcbpkbingmdeaaW.PrintWords Go.Proofs.YtfcbpkbingmdeaaW.PrintLast Go.Proofs.YtfcbpkbingmdeaaW.PrintMore
attribute [local go_sem] max2_int min2_int max_two min_two max_three min_three max_four min_four   -- for this text's walks alone
set_option linter.unusedVariables false
set_option linter.unusedSimpArgs false



def errW : Option Int → Value
 | none => .nilIface
 | some c => .iface 0 (.int .i64 c)
theorem errW_none : errW none = .nilIface := rfl
theorem errW_some (c : Int) : errW (some c) = .iface 0 (.int .i64 c) := rfl

theorem info3 : (Try.prog.info? 3).map (fun i => (i.zero, i.size, i.bytes)) = some (some (.int .i64 0), 1, 8) := by kernel_rfl
theorem info5 : (Try.prog.info? 5).map (fun i => (i.zero, i.size, i.bytes)) = some (some (.int .u8 0), 1, 1) := by kernel_rfl
-- the values' own types

theorem am {p : Prop} (h : p) : Aside0 p := Aside0.mk h
theorem cellUp {w W : World} {a : Addr} {v : Value} (h : Below w.heap.size w W) (hx : w.cell? a = some v) : W.cell? a = some v := (h.cell (World.block_lt_of_cell? w _ hx)).trans hx
theorem putS : (∀ (a : Act) (d : Tmp) (v : Value), a.put (some d) v = { tmps := a.tmps.setIfInBounds d v, defers := a.defers }) ∧ (∀ (l : List Value) (i : Nat) (a : Value), l.toArray.setIfInBounds i a = (l.set i a).toArray) ∧ (∀ (x : Value) (xs : List Value) (a : Value), (x :: xs).set 0 a = a :: xs) ∧ (∀ (x : Value) (xs : List Value) (i : Nat) (a : Value), (x :: xs).set (i + 1) a = x :: xs.set i a) ∧ (∀ n : Int, IntKind.i64.wrap n = wrap64 n) ∧ (∀ n : Int, IntKind.i32.wrap n = wrap32 n) :=
 ⟨fun _ _ _ => rfl, fun l i a => List.setIfInBounds_toArray l i a, fun _ _ _ => rfl, fun _ _ _ _ => rfl, i64_w, i32_w⟩
end Go.Proofs.Ytfcbpkbingmdeaa.QT

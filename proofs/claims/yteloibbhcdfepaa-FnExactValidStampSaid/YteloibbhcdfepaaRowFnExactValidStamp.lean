/- The statement FnExactValidStamp: for every input the law returns true and its arguments read as they did. Conditions: none beyond the given row's own. Here: the arguments opened and shut; the walk and the plain side are imported. -/
import Derived.Test.YteloibbhcdfepaaRows
import Derived.Test.YteloibbhcdfepaaPFnExactValidStampx1
import Derived.Test.YteloibbhcdfepaaPureFnExactValidStamp
import Derived.Test.YteloibbhcdfepaaOpen
import Derived.WalkKit
import Derived.ProofKit
import Derived.OpenShut
import Derived.ShutString
import Derived.ChangeOld
import Derived.Below
import Derived.SizedLaws
namespace Go.Proofs.Yteloibbhcdfepaa.fnExactValidStamp
open Go.ChangeShapes Go.WideShapes Go.ChangeAt Go.RowKit Go.Proofs.YteloibbhcdfepaaW.PrintWords Go.Proofs.Yteloibbhcdfepaa.Open Go.Proofs.Yteloibbhcdfepaa.PFnExactValidStamp
open Go.ChangeMaps (open_string shut_string)
set_option linter.unusedVariables false
theorem own : ownKnob Try.prog.godebug = none := by kernel_rfl
theorem laidOut : laidOutB Try.prog = true := by kernel_rfl
structure S24 where
  f0 : Int
  f1 : Int
def k24 : Kd S24 := Kd.iso (Kd.pair (Kd.int .i64) (Kd.int .i64)) (fun x : S24 => (x.f0, x.f1))
theorem k24_open {w : World} {x : S24} {cs : List Value} (h : k24.K w x cs) : cs = [.int .i64 x.f0, .int .i64 x.f1] := by
  obtain ⟨c0, r0, rfl, h0, h⟩ := h
  obtain rfl : c0 = _ := h0
  obtain rfl : r0 = _ := h
  rfl
theorem cells3 : Try.prog.cellsOf 3 = 1 := by kernel_rfl
theorem cells24 : Try.prog.cellsOf 24 = 2 := by kernel_rfl
theorem opens24 {H : Type} {enc : TypeId × Value → H} {w : World} : Opens enc Try.prog w 24 k24 (fun x => (Lit.int .i64 x.f0).wf = true ∧ (Lit.int .i64 x.f1).wf = true) :=
  Opens.struct (fun a => ⟨a.1, a.2⟩) Try.underlying24 cells24 (OpensF.cons (d := (Kd.int .i64)) rfl rfl cells3 (Opens.int Try.underlying3) (OpensF.last (d := (Kd.int .i64)) rfl rfl cells3 (Opens.int Try.underlying3))) (fun _ => rfl)
set_option maxRecDepth 100000 in
theorem lifted (os : Os) (started : os.Started) (H : Type) (enc : TypeId × Value → H) :
    ReturnsInHanded {} Try.checked os 5 .any (Rows.fnExactValidStampSpec.pre6 enc Try.prog Try.f5 Rows.fnExactValidStampRow.domain false) (Rows.fnExactValidStampSpec.post enc Try.prog Try.f5 false true false false) := by
  refine returnsInHanded_of_change_sized (C := Try.checked) own started (by kernel_rfl) Try.func5
    (ChangeSpec.witness6 (enc := enc) (C := Try.checked) false ⟨#[], #[.agg #[.int .i64 0, .int .i64 0]], []⟩ 8 (by kernel_rfl) (by kernel_rfl) (by kernel_rfl) (by kernel_rfl)) ?_
  intro W base args ds gs before hval0 hW hcnd hsz0 _
  have hsz : (DataW.weightsEach Try.prog (Try.f5.params.toList ++ Rows.fnExactValidStampSpec.plain.varTypes Try.prog) (ds ++ gs)).all (· ≤ reachBytes) = true := hsz0
  have hval : ∀ (j : Nat) t v, Try.f5.params[j]? = some t → args[j]? = some v → Value.okWide Try.prog W .any base t v := hval0
  have hW' := hW
  obtain ⟨p, q, hA0, hV, rfl, hfz, hnd⟩ := hW
  have hA : DataW.TrodAll enc Try.prog W 0 (fun _ => true) true Try.f5.params.toList args.toList ds p := hA0
  rw [Try.params5] at hA hval hsz
  obtain ⟨v0, vs0, d0, ds0, p0, q0, hargs, rfl, rfl, h0, r0⟩ := trodAll_cons hA
  obtain ⟨rfl, rfl, rfl⟩ := trodAll_nil r0
  obtain rfl : args = #[v0] := by cases args; simp_all
  obtain ⟨rfl, rfl⟩ := trodVars_none hV
  have k0 := h0
  have lt0 : ∀ x ∈ p0, x.block < W.heap.size := by obtain ⟨m, hm⟩ := k0; exact DataW.trod_lt m _ _ _ hm
  obtain ⟨x0, cs0, rfl, hk0, hq0⟩ := Opens.value Try.underlying24 opens24 (hval 0 24 v0 rfl rfl) h0
  obtain rfl := k24_open hk0
  clear hA0 hval0 hsz0 hsz
  have hP := Pure.FnExactValidStamp x0.f0 x0.f1 hq0
  refine (laws_FnExactValidStamp.calls x0.f0 x0.f1 true W hP).mono fun e W' ⟨he, bel⟩ => ?_
  subst he
  exact ⟨_, rfl, _, _, _, [], _, [], hW', trodAll_mk1 (shut_bool Try.underlying4 _), (trodAll_cons_mk (Below.trod laidOut (by kernel_rfl) (of_decide_eq_true (by kernel_rfl)) k0 bel lt0) trodAll_mk0), rfl, bel.frame _, fun h => by cases h⟩
theorem over : Rows.fnExactValidStampRow.holds Try.pinned (OpenSpec.ofChange Rows.fnExactValidStampSpec) :=
  OpenClaim.holds_of_wide 5 Try.f5 rfl rfl rfl rfl rfl rfl rfl ⟨rfl, rfl, rfl, rfl, rfl⟩ rfl rfl rfl rfl rfl (by kernel_rfl) Try.func5 (by kernel_rfl)
    (of_decide_eq_true (by kernel_rfl)) (by unfold Func.isWrapper; first | (rw [if_pos (by decide +kernel)]; kernel_rfl) | (rw [if_neg (by decide +kernel)]; exact ⟨rfl, rfl⟩))
    (fun os started H enc _ => lifted os started H enc)
theorem proved : Rows.FnExactValidStampSaid := over
end Go.Proofs.Yteloibbhcdfepaa.fnExactValidStamp
namespace Go.Proofs.Yteloibbhcdfepaa
/-- The row, under a short name, for the claim. -/
theorem fnExactValidStamp_holds : Rows.FnExactValidStampSaid := fnExactValidStamp.proved
#print axioms fnExactValidStamp_holds
end Go.Proofs.Yteloibbhcdfepaa

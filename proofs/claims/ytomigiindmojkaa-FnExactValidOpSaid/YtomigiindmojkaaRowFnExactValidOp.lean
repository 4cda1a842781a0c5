/- The statement FnExactValidOp: for every input the law returns true and its arguments read as they did. Conditions: none beyond the given row's own. Here: the arguments opened and shut; the walk and the plain side are imported. -/
import Derived.Test.YtomigiindmojkaaRows
import Derived.Test.YtomigiindmojkaaQBx8
import Derived.Test.YtomigiindmojkaaPureFnExactValidOp
import Derived.Test.YtomigiindmojkaaOpen
import Derived.WalkKit
import Derived.ProofKit
import Derived.OpenShut
import Derived.ShutString
import Derived.ChangeOld
import Derived.Below
import Derived.SizedLaws
namespace Go.Proofs.Ytomigiindmojkaa.fnExactValidOp
open Go.ChangeShapes Go.WideShapes Go.ChangeAt Go.RowKit Go.Proofs.YtomigiindmojkaaW.PrintWords Go.Proofs.Ytomigiindmojkaa.Open Go.Proofs.Ytomigiindmojkaa.QB
open Go.ChangeMaps (open_string shut_string)
set_option linter.unusedVariables false
theorem own : ownKnob Try.prog.godebug = none := by kernel_rfl
theorem laidOut : laidOutB Try.prog = true := by kernel_rfl
structure S23 where
  f0 : Int
  f1 : Int
def k23 : Kd S23 := Kd.iso (Kd.pair (Kd.int .i64) (Kd.int .i64)) (fun x : S23 => (x.f0, x.f1))
theorem k23_open {w : World} {x : S23} {cs : List Value} (h : k23.K w x cs) : cs = [.int .i64 x.f0, .int .i64 x.f1] := by
  obtain ⟨c0, r0, rfl, h0, h⟩ := h
  obtain rfl : c0 = _ := h0
  obtain rfl : r0 = _ := h
  rfl
structure S25 where
  f0 : S23
  f1 : Int
  f2 : S23
  f3 : S23
  f4 : S23
  f5 : Int
  f6 : Bool
  f7 : ByteArray
def k25 : Kd S25 := Kd.iso (Kd.pair k23 (Kd.pair (Kd.int .i64) (Kd.pair k23 (Kd.pair k23 (Kd.pair k23 (Kd.pair (Kd.int .i64) (Kd.pair Kd.bool Kd.string))))))) (fun x : S25 => (x.f0, x.f1, x.f2, x.f3, x.f4, x.f5, x.f6, x.f7))
theorem k25_open {w : World} {x : S25} {cs : List Value} (h : k25.K w x cs) : cs = [.int .i64 x.f0.f0, .int .i64 x.f0.f1, .int .i64 x.f1, .int .i64 x.f2.f0, .int .i64 x.f2.f1, .int .i64 x.f3.f0, .int .i64 x.f3.f1, .int .i64 x.f4.f0, .int .i64 x.f4.f1, .int .i64 x.f5, .bool x.f6, .string x.f7] := by
  obtain ⟨c0, r0, rfl, h0, h⟩ := h
  obtain ⟨c1, r1, rfl, h1, h⟩ := h
  obtain ⟨c2, r2, rfl, h2, h⟩ := h
  obtain ⟨c3, r3, rfl, h3, h⟩ := h
  obtain ⟨c4, r4, rfl, h4, h⟩ := h
  obtain ⟨c5, r5, rfl, h5, h⟩ := h
  obtain ⟨c6, r6, rfl, h6, h⟩ := h
  obtain rfl : c0 = _ := k23_open h0
  obtain rfl : c1 = _ := h1
  obtain rfl : c2 = _ := k23_open h2
  obtain rfl : c3 = _ := k23_open h3
  obtain rfl : c4 = _ := k23_open h4
  obtain rfl : c5 = _ := h5
  obtain rfl : c6 = _ := h6
  obtain rfl : r6 = _ := h
  rfl
theorem cells3 : Try.prog.cellsOf 3 = 1 := by kernel_rfl
theorem cells4 : Try.prog.cellsOf 4 = 1 := by kernel_rfl
theorem cells9 : Try.prog.cellsOf 9 = 1 := by kernel_rfl
theorem cells23 : Try.prog.cellsOf 23 = 2 := by kernel_rfl
theorem cells25 : Try.prog.cellsOf 25 = 12 := by kernel_rfl
theorem opens23 {H : Type} {enc : TypeId × Value → H} {w : World} : Opens enc Try.prog w 23 k23 (fun x => (Lit.int .i64 x.f0).wf = true ∧ (Lit.int .i64 x.f1).wf = true) :=
  Opens.struct (fun a => ⟨a.1, a.2⟩) Try.underlying23 cells23 (OpensF.cons (d := (Kd.int .i64)) rfl rfl cells3 (Opens.int Try.underlying3) (OpensF.last (d := (Kd.int .i64)) rfl rfl cells3 (Opens.int Try.underlying3))) (fun _ => rfl)
theorem opens25 {H : Type} {enc : TypeId × Value → H} {w : World} : Opens enc Try.prog w 25 k25 (fun x => ((Lit.int .i64 x.f0.f0).wf = true ∧ (Lit.int .i64 x.f0.f1).wf = true) ∧ (Lit.int .i64 x.f1).wf = true ∧ ((Lit.int .i64 x.f2.f0).wf = true ∧ (Lit.int .i64 x.f2.f1).wf = true) ∧ ((Lit.int .i64 x.f3.f0).wf = true ∧ (Lit.int .i64 x.f3.f1).wf = true) ∧ ((Lit.int .i64 x.f4.f0).wf = true ∧ (Lit.int .i64 x.f4.f1).wf = true) ∧ (Lit.int .i64 x.f5).wf = true ∧ True ∧ x.f7.size ≤ maxLen) :=
  Opens.struct (fun a => ⟨a.1, a.2.1, a.2.2.1, a.2.2.2.1, a.2.2.2.2.1, a.2.2.2.2.2.1, a.2.2.2.2.2.2.1, a.2.2.2.2.2.2.2⟩) Try.underlying25 cells25 (OpensF.cons (d := k23) rfl rfl cells23 opens23 (OpensF.cons (d := (Kd.int .i64)) rfl rfl cells3 (Opens.int Try.underlying3) (OpensF.cons (d := k23) rfl rfl cells23 opens23 (OpensF.cons (d := k23) rfl rfl cells23 opens23 (OpensF.cons (d := k23) rfl rfl cells23 opens23 (OpensF.cons (d := (Kd.int .i64)) rfl rfl cells3 (Opens.int Try.underlying3) (OpensF.cons (d := Kd.bool) rfl rfl cells4 (Opens.bool Try.underlying4) (OpensF.last (d := Kd.string) rfl rfl cells9 (Opens.string Try.underlying9))))))))) (fun _ => rfl)
set_option maxRecDepth 100000 in
theorem lifted (os : Os) (started : os.Started) (H : Type) (enc : TypeId × Value → H) :
    ReturnsInHanded {} Try.checked os 3 .any (Rows.fnExactValidOpSpec.pre6 enc Try.prog Try.f3 Rows.fnExactValidOpRow.domain false) (Rows.fnExactValidOpSpec.post enc Try.prog Try.f3 false true false false) := by
  refine returnsInHanded_of_change_sized (C := Try.checked) own started (by kernel_rfl) Try.func3
    (ChangeSpec.witness6 (enc := enc) (C := Try.checked) false ⟨#[], #[.agg #[.int .i64 0, .int .i64 0, .int .i64 0, .int .i64 0, .int .i64 0, .int .i64 0, .int .i64 0, .int .i64 0, .int .i64 0, .int .i64 0, .bool false, .string ByteArray.empty]], []⟩ 8 (by kernel_rfl) (by kernel_rfl) (by kernel_rfl) (by kernel_rfl)) ?_
  intro W base args ds gs before hval0 hW hcnd hsz0 _
  have hsz : (DataW.weightsEach Try.prog (Try.f3.params.toList ++ Rows.fnExactValidOpSpec.plain.varTypes Try.prog) (ds ++ gs)).all (· ≤ reachBytes) = true := hsz0
  have hval : ∀ (j : Nat) t v, Try.f3.params[j]? = some t → args[j]? = some v → Value.okWide Try.prog W .any base t v := hval0
  have hW' := hW
  obtain ⟨p, q, hA0, hV, rfl, hfz, hnd⟩ := hW
  have hA : DataW.TrodAll enc Try.prog W 0 (fun _ => true) true Try.f3.params.toList args.toList ds p := hA0
  rw [Try.params3] at hA hval hsz
  obtain ⟨v0, vs0, d0, ds0, p0, q0, hargs, rfl, rfl, h0, r0⟩ := trodAll_cons hA
  obtain ⟨rfl, rfl, rfl⟩ := trodAll_nil r0
  obtain rfl : args = #[v0] := by cases args; simp_all
  obtain ⟨rfl, rfl⟩ := trodVars_none hV
  have k0 := h0
  have lt0 : ∀ x ∈ p0, x.block < W.heap.size := by obtain ⟨m, hm⟩ := k0; exact DataW.trod_lt m _ _ _ hm
  obtain ⟨x0, cs0, rfl, hk0, hq0⟩ := Opens.value Try.underlying25 opens25 (hval 0 25 v0 rfl rfl) h0
  obtain rfl := k25_open hk0
  clear hA0 hval0 hsz0 hsz
  have hP := Pure.FnExactValidOp x0.f0.f0 x0.f0.f1 x0.f1 x0.f2.f0 x0.f2.f1 x0.f3.f0 x0.f3.f1 x0.f4.f0 x0.f4.f1 x0.f5 x0.f6 x0.f7 hq0
  refine (laws_FnExactValidOp.calls x0.f0.f0 x0.f0.f1 x0.f1 x0.f2.f0 x0.f2.f1 x0.f3.f0 x0.f3.f1 x0.f4.f0 x0.f4.f1 x0.f5 x0.f6 x0.f7 true W hP).mono fun e W' ⟨he, bel⟩ => ?_
  subst he
  exact ⟨_, rfl, _, _, _, [], _, [], hW', trodAll_mk1 (shut_bool Try.underlying4 _), (trodAll_cons_mk (Below.trod laidOut (by kernel_rfl) (of_decide_eq_true (by kernel_rfl)) k0 bel lt0) trodAll_mk0), rfl, bel.frame _, fun h => by cases h⟩
theorem over : Rows.fnExactValidOpRow.holds Try.pinned (OpenSpec.ofChange Rows.fnExactValidOpSpec) :=
  OpenClaim.holds_of_wide 3 Try.f3 rfl rfl rfl rfl rfl rfl rfl ⟨rfl, rfl, rfl, rfl, rfl⟩ rfl rfl rfl rfl rfl (by kernel_rfl) Try.func3 (by kernel_rfl)
    (of_decide_eq_true (by kernel_rfl)) (by unfold Func.isWrapper; first | (rw [if_pos (by decide +kernel)]; kernel_rfl) | (rw [if_neg (by decide +kernel)]; exact ⟨rfl, rfl⟩))
    (fun os started H enc _ => lifted os started H enc)
theorem proved : Rows.FnExactValidOpSaid := over
end Go.Proofs.Ytomigiindmojkaa.fnExactValidOp
namespace Go.Proofs.Ytomigiindmojkaa
/-- The row, under a short name, for the claim. -/
theorem fnExactValidOp_holds : Rows.FnExactValidOpSaid := fnExactValidOp.proved
#print axioms fnExactValidOp_holds
end Go.Proofs.Ytomigiindmojkaa

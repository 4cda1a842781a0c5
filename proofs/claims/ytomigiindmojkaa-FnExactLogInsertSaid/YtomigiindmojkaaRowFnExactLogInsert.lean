/- The statement FnExactLogInsert: for every input the law returns true and its arguments read as they did. Conditions: none beyond the given row's own. Here: the arguments opened and shut; the walk and the plain side are imported. -/
import Derived.Test.YtomigiindmojkaaRows
import Derived.Test.YtomigiindmojkaaQJx22
import Derived.Test.YtomigiindmojkaaPureFnExactLogInsert
import Derived.Test.YtomigiindmojkaaOpen
import Derived.WalkKit
import Derived.ProofKit
import Derived.OpenShut
import Derived.ShutString
import Derived.ChangeOld
import Derived.Below
import Derived.SizedLaws
namespace Go.Proofs.Ytomigiindmojkaa.fnExactLogInsert
open Go.ChangeShapes Go.WideShapes Go.ChangeAt Go.RowKit Go.Proofs.YtomigiindmojkaaW.PrintWords Go.Proofs.Ytomigiindmojkaa.Open Go.Proofs.Ytomigiindmojkaa.QJ
open Go.ChangeMaps (open_string shut_string)
set_option linter.unusedVariables false
theorem own : ownKnob Try.prog.godebug = none := by kernel_rfl
theorem laidOut : laidOutB Try.prog = true := by kernel_rfl
theorem cells3 : Try.prog.cellsOf 3 = 1 := by kernel_rfl
theorem cells4 : Try.prog.cellsOf 4 = 1 := by kernel_rfl
theorem cells9 : Try.prog.cellsOf 9 = 1 := by kernel_rfl
theorem cells23 : Try.prog.cellsOf 23 = 2 := by kernel_rfl
theorem cells25 : Try.prog.cellsOf 25 = 12 := by kernel_rfl
theorem opens23 {H : Type} {enc : TypeId × Value → H} {w : World} : Opens enc Try.prog w 23 k23 (fun x => (Lit.int .i64 x.f0).wf = true ∧ (Lit.int .i64 x.f1).wf = true) :=
  Opens.struct (fun a => ⟨a.1, a.2⟩) Try.underlying23 cells23 (OpensF.cons (d := (Kd.int .i64)) rfl rfl cells3 (Opens.int Try.underlying3) (OpensF.last (d := (Kd.int .i64)) rfl rfl cells3 (Opens.int Try.underlying3))) (fun _ => rfl)
theorem opens25 {H : Type} {enc : TypeId × Value → H} {w : World} : Opens enc Try.prog w 25 k25 (fun x => ((Lit.int .i64 x.f0.f0).wf = true ∧ (Lit.int .i64 x.f0.f1).wf = true) ∧ (Lit.int .i64 x.f1).wf = true ∧ ((Lit.int .i64 x.f2.f0).wf = true ∧ (Lit.int .i64 x.f2.f1).wf = true) ∧ ((Lit.int .i64 x.f3.f0).wf = true ∧ (Lit.int .i64 x.f3.f1).wf = true) ∧ ((Lit.int .i64 x.f4.f0).wf = true ∧ (Lit.int .i64 x.f4.f1).wf = true) ∧ (Lit.int .i64 x.f5).wf = true ∧ True ∧ x.f7.size ≤ maxLen) :=
  Opens.struct (fun a => ⟨a.1, a.2.1, a.2.2.1, a.2.2.2.1, a.2.2.2.2.1, a.2.2.2.2.2.1, a.2.2.2.2.2.2.1, a.2.2.2.2.2.2.2⟩) Try.underlying25 cells25 (OpensF.cons (d := k23) rfl rfl cells23 opens23 (OpensF.cons (d := (Kd.int .i64)) rfl rfl cells3 (Opens.int Try.underlying3) (OpensF.cons (d := k23) rfl rfl cells23 opens23 (OpensF.cons (d := k23) rfl rfl cells23 opens23 (OpensF.cons (d := k23) rfl rfl cells23 opens23 (OpensF.cons (d := (Kd.int .i64)) rfl rfl cells3 (Opens.int Try.underlying3) (OpensF.cons (d := Kd.bool) rfl rfl cells4 (Opens.bool Try.underlying4) (OpensF.last (d := Kd.string) rfl rfl cells9 (Opens.string Try.underlying9))))))))) (fun _ => rfl)
set_option maxRecDepth 100000 in
theorem lifted (os : Os) (started : os.Started) (H : Type) (enc : TypeId × Value → H) :
    ReturnsInHanded {} Try.checked os 9 .any (Rows.fnExactLogInsertSpec.pre6 enc Try.prog Try.f9 Rows.fnExactLogInsertRow.domain false) (Rows.fnExactLogInsertSpec.post enc Try.prog Try.f9 false true false false) := by
  refine returnsInHanded_of_change_sized (C := Try.checked) own started (by kernel_rfl) Try.func9
    (ChangeSpec.witness6 (enc := enc) (C := Try.checked) false ⟨#[], #[.slice none 0 0, .agg #[.int .i64 0, .int .i64 0, .int .i64 0, .int .i64 0, .int .i64 0, .int .i64 0, .int .i64 0, .int .i64 0, .int .i64 0, .int .i64 0, .bool false, .string ByteArray.empty]], []⟩ 8 (by kernel_rfl) (by kernel_rfl) (by kernel_rfl) (by kernel_rfl)) ?_
  intro W base args ds gs before hval0 hW hcnd hsz0 _
  have hsz : (DataW.weightsEach Try.prog (Try.f9.params.toList ++ Rows.fnExactLogInsertSpec.plain.varTypes Try.prog) (ds ++ gs)).all (· ≤ reachBytes) = true := hsz0
  have hval : ∀ (j : Nat) t v, Try.f9.params[j]? = some t → args[j]? = some v → Value.okWide Try.prog W .any base t v := hval0
  have hW' := hW
  obtain ⟨p, q, hA0, hV, rfl, hfz, hnd⟩ := hW
  have hA : DataW.TrodAll enc Try.prog W 0 (fun _ => true) true Try.f9.params.toList args.toList ds p := hA0
  rw [Try.params9] at hA hval hsz
  obtain ⟨v0, vs0, d0, ds0, p0, q0, hargs, rfl, rfl, h0, r0⟩ := trodAll_cons hA
  obtain ⟨v1, vs1, d1, ds1, p1, q1, rfl, rfl, rfl, h1, r1⟩ := trodAll_cons r0
  obtain ⟨rfl, rfl, rfl⟩ := trodAll_nil r1
  obtain rfl : args = #[v0, v1] := by cases args; simp_all
  obtain ⟨rfl, rfl⟩ := trodVars_none hV
  obtain ⟨a0, len0, cap0, rfl⟩ := okWide_slice Try.underlying33 (hval 0 33 v0 rfl rfl)
  have k0 := h0
  have lt0 : ∀ x ∈ p0, x.block < W.heap.size := by obtain ⟨m, hm⟩ := k0; exact DataW.trod_lt m _ _ _ hm
  obtain ⟨l0, rfl, hr0, hc0, hm0, hq0⟩ : ∃ l : List S25, l.length = len0 ∧ Kd.C k25 W a0 l.length l ∧ l.length ≤ cap0 ∧ l.length ≤ maxLen ∧ ∀ x ∈ l, ((Lit.int .i64 x.f0.f0).wf = true ∧ (Lit.int .i64 x.f0.f1).wf = true) ∧ (Lit.int .i64 x.f1).wf = true ∧ ((Lit.int .i64 x.f2.f0).wf = true ∧ (Lit.int .i64 x.f2.f1).wf = true) ∧ ((Lit.int .i64 x.f3.f0).wf = true ∧ (Lit.int .i64 x.f3.f1).wf = true) ∧ ((Lit.int .i64 x.f4.f0).wf = true ∧ (Lit.int .i64 x.f4.f1).wf = true) ∧ (Lit.int .i64 x.f5).wf = true ∧ True ∧ x.f7.size ≤ maxLen := by
    obtain ⟨fuel, hf⟩ := h0
    exact Opens.slice Try.underlying33 cells25 opens25 (show DataW.trod enc Try.prog W 0 (fun _ => true) true fuel 33 [.slice a0 len0 cap0] = _ from hf)
  have k1 := h1
  have lt1 : ∀ x ∈ p1, x.block < W.heap.size := by obtain ⟨m, hm⟩ := k1; exact DataW.trod_lt m _ _ _ hm
  obtain ⟨x1, cs1, rfl, hk1, hq1⟩ := Opens.value Try.underlying25 opens25 (hval 1 25 v1 rfl rfl) h1
  obtain rfl := k25_open hk1
  clear hA0 hval0 hsz0 hsz
  obtain ⟨k, hP⟩ := Pure.FnExactLogInsert l0 x1.f0.f0 x1.f0.f1 x1.f1 x1.f2.f0 x1.f2.f1 x1.f3.f0 x1.f3.f1 x1.f4.f0 x1.f4.f1 x1.f5 x1.f6 x1.f7 hm0 hq0 hq1
  refine (laws_FnExactLogInsert.calls k _ _ l0 x1.f0.f0 x1.f0.f1 x1.f1 x1.f2.f0 x1.f2.f1 x1.f3.f0 x1.f3.f1 x1.f4.f0 x1.f4.f1 x1.f5 x1.f6 x1.f7 true W hr0 hc0 hP).mono fun e W' ⟨he, bel⟩ => ?_
  subst he
  exact ⟨_, rfl, _, _, _, [], _, [], hW', trodAll_mk1 (shut_bool Try.underlying4 _), (trodAll_cons_mk (Below.trod laidOut (by kernel_rfl) (of_decide_eq_true (by kernel_rfl)) k0 bel lt0) (trodAll_cons_mk (Below.trod laidOut (by kernel_rfl) (of_decide_eq_true (by kernel_rfl)) k1 bel lt1) trodAll_mk0)), rfl, bel.frame _, fun h => by cases h⟩
theorem over : Rows.fnExactLogInsertRow.holds Try.pinned (OpenSpec.ofChange Rows.fnExactLogInsertSpec) :=
  OpenClaim.holds_of_wide 9 Try.f9 rfl rfl rfl rfl rfl rfl rfl ⟨rfl, rfl, rfl, rfl, rfl⟩ rfl rfl rfl rfl rfl (by kernel_rfl) Try.func9 (by kernel_rfl)
    (of_decide_eq_true (by kernel_rfl)) (by unfold Func.isWrapper; first | (rw [if_pos (by decide +kernel)]; kernel_rfl) | (rw [if_neg (by decide +kernel)]; exact ⟨rfl, rfl⟩))
    (fun os started H enc _ => lifted os started H enc)
theorem proved : Rows.FnExactLogInsertSaid := over
end Go.Proofs.Ytomigiindmojkaa.fnExactLogInsert
namespace Go.Proofs.Ytomigiindmojkaa
/-- The row, under a short name, for the claim. -/
theorem fnExactLogInsert_holds : Rows.FnExactLogInsertSaid := fnExactLogInsert.proved
#print axioms fnExactLogInsert_holds
end Go.Proofs.Ytomigiindmojkaa

/- The statement FnExactEncodeStamp: for every input the law returns true and its arguments read as they did. Conditions: none beyond the given row's own. Here: the arguments opened and shut; the walk and the plain side are imported. -/
import Derived.Test.YtfcbpkbingmdeaaDoorRows
import Derived.Test.YtfcbpkbingmdeaaDoorQEx6
import Derived.Test.YtfcbpkbingmdeaaDoorPureFnExactEncodeStamp
import Derived.Test.YtfcbpkbingmdeaaDoorOpen
import Derived.WalkKit
import Derived.ProofKit
import Derived.OpenShut
import Derived.ShutString
import Derived.ChangeOld
import Derived.Below
import Derived.SizedLaws
import Derived.LaidMore
import Derived.Stop.Joined
import Derived.SevenTiedAt
import Derived.Test.YtfcbpkbingmdeaaDoorCards
import Derived.Test.YtfcbpkbingmdeaaDoorTie
namespace Go.Proofs.YtfcbpkbingmdeaaDoor.fnExactEncodeStamp
open Go.ChangeShapes Go.WideShapes Go.ChangeAt Go.RowKit Go.Proofs.YtfcbpkbingmdeaaDoorW.PrintWords Go.Proofs.YtfcbpkbingmdeaaDoor.Open Go.Proofs.YtfcbpkbingmdeaaDoor.QE
open Go.ChangeMaps (open_string shut_string)
set_option linter.unusedVariables false
theorem own : ownKnob Tryd.prog.godebug = none := by kernel_rfl
theorem laidOut : laidOutB Tryd.prog = true := by kernel_rfl
structure S23 where
  f0 : Int
  f1 : Int
def k23 : Kd S23 := Kd.iso (Kd.pair (Kd.int .i64) (Kd.int .i64)) (fun x : S23 => (x.f0, x.f1))
theorem k23_open {w : World} {x : S23} {cs : List Value} (h : k23.K w x cs) : cs = [.int .i64 x.f0, .int .i64 x.f1] := by
  obtain ⟨c0, r0, rfl, h0, h⟩ := h
  obtain rfl : c0 = _ := h0
  obtain rfl : r0 = _ := h
  rfl
theorem cells3 : Tryd.prog.cellsOf 3 = 1 := by kernel_rfl
theorem cells23 : Tryd.prog.cellsOf 23 = 2 := by kernel_rfl
theorem opens23 {H : Type} {enc : TypeId × Value → H} {w : World} : Opens enc Tryd.prog w 23 k23 (fun x => (Lit.int .i64 x.f0).wf = true ∧ (Lit.int .i64 x.f1).wf = true) :=
  Opens.struct (fun a => ⟨a.1, a.2⟩) Tryd.underlying23 cells23 (OpensF.cons (d := (Kd.int .i64)) rfl rfl cells3 (Opens.int Tryd.underlying3) (OpensF.last (d := (Kd.int .i64)) rfl rfl cells3 (Opens.int Tryd.underlying3))) (fun _ => rfl)
theorem door_met (os : Os) (args : Array Value) : laidMetH Tryd.prog Rows.fnExactEncodeStampRow.laid ((World.doorLaid Tryd.prog 24 os).forCall (fun _ _ => 0) ⟨#[], args, []⟩).memory :=
  laidMetH_of_parts3 (fuel := 8) (laidMet_of_run' 8 (by kernel_rfl) (by kernel_rfl)) (by kernel_rfl) (by kernel_rfl)
set_option maxRecDepth 100000 in
theorem lifted (os : Os) (started : os.Started) (H : Type) (enc : TypeId × Value → H) :
    ReturnsInHanded {} Tryd.checked os 3 .any (fun w args => (Rows.fnExactEncodeStampSpec.pre enc Tryd.prog Tryd.f3 [] false w args ∧ laidMetH Tryd.prog Rows.fnExactEncodeStampRow.laid w) ∧ sizedMet enc Tryd.prog Tryd.f3 (OpenSpec.ofChange Rows.fnExactEncodeStampSpec) false w args) (Rows.fnExactEncodeStampSpec.post enc Tryd.prog Tryd.f3 false true false false) := by
  refine returnsInHanded_of_change_and (C := Tryd.checked) (X := fun w _ => laidMetH Tryd.prog Rows.fnExactEncodeStampRow.laid w) (fun _ _ _ hh h => h.of_heap hh) own started (by kernel_rfl) Tryd.func3
    (ChangeSpec.witness_shaped (enc := enc) (C := Tryd.checked) (os := os) (X := fun w _ => laidMetH Tryd.prog Rows.fnExactEncodeStampRow.laid w) false (World.doorLaid Tryd.prog 24 os) #[.agg #[.int .i64 0, .int .i64 0]] 8 rfl (World.shaped_of_RefB (by kernel_rfl) (by kernel_rfl)) (by kernel_rfl) (by kernel_rfl) (by kernel_rfl) (door_met os _)) ?_
  intro W base args ds gs before hval0 hW hcnd hsz0 hL _
  have hsz : (DataW.weightsEach Tryd.prog (Tryd.f3.params.toList ++ Rows.fnExactEncodeStampSpec.plain.varTypes Tryd.prog) (ds ++ gs)).all (· ≤ reachBytes) = true := hsz0
  have hval : ∀ (j : Nat) t v, Tryd.f3.params[j]? = some t → args[j]? = some v → Value.okWide Tryd.prog W .any base t v := hval0
  have hW' := hW
  obtain ⟨p, q, hA0, hV, rfl, hfz, hnd⟩ := hW
  have hA : DataW.TrodAll enc Tryd.prog W 0 (fun _ => true) true Tryd.f3.params.toList args.toList ds p := hA0
  rw [Tryd.params3] at hA hval hsz
  obtain ⟨v0, vs0, d0, ds0, p0, q0, hargs, rfl, rfl, h0, r0⟩ := trodAll_cons hA
  obtain ⟨rfl, rfl, rfl⟩ := trodAll_nil r0
  obtain rfl : args = #[v0] := by cases args; simp_all
  obtain ⟨rfl, rfl⟩ := trodVars_none hV
  have k0 := h0
  have lt0 : ∀ x ∈ p0, x.block < W.heap.size := by obtain ⟨m, hm⟩ := k0; exact DataW.trod_lt m _ _ _ hm
  obtain ⟨x0, cs0, rfl, hk0, hq0⟩ := Opens.value Tryd.underlying23 opens23 (hval 0 23 v0 rfl rfl) h0
  obtain rfl := k23_open hk0
  clear hA0 hval0 hsz0 hsz
  obtain ⟨k, hP⟩ := Pure.FnExactEncodeStamp x0.f0 x0.f1 hq0
  refine (laws_FnExactEncodeStamp.calls k x0.f0 x0.f1 true W hP).mono fun e W' ⟨he, bel⟩ => ?_
  subst he
  exact ⟨_, rfl, _, _, _, [], _, [], hW', trodAll_mk1 (shut_bool Tryd.underlying4 _), (trodAll_cons_mk (Below.trod laidOut (by kernel_rfl) (of_decide_eq_true (by kernel_rfl)) k0 bel lt0) trodAll_mk0), rfl, bel.frame _, fun h => by cases h⟩
theorem over : Rows.fnExactEncodeStampRow.holds Tryd.pinned (OpenSpec.ofChange Rows.fnExactEncodeStampSpec) :=
  OpenClaim.holds_of_wide 3 Tryd.f3 rfl rfl rfl rfl rfl rfl rfl ⟨rfl, rfl, rfl, rfl, rfl⟩ rfl rfl rfl rfl rfl (by kernel_rfl) Tryd.func3 (by kernel_rfl)
    (of_decide_eq_true (by kernel_rfl)) (by unfold Func.isWrapper; first | (rw [if_pos (by decide +kernel)]; kernel_rfl) | (rw [if_neg (by decide +kernel)]; exact ⟨rfl, rfl⟩))
    (fun os started H enc _ => lifted os started H enc)
theorem card : Rows.FnExactEncodeStampCardSaid :=
  Claim7.holds_tied_plain_at .later [] [.data, .data, .data] true (true, "c9c5b1f6a82a7cc524e212ed48b4697eb8b45f9928fdd80dcb9169b79856399d") false over (fun _ h => by cases h) (by kernel_rfl) (fun _ h => by cases h) fnExactEncodeStamp_row_tie rfl ⟨rfl, rfl⟩ (by kernel_rfl) rfl
    (fun f fn hf hfn => by
      obtain rfl : f = 3 := Option.some.inj ((show Tryd.prog.funcNamed "loop.example/collabdoc/laws.FnExactEncodeStamp" = some 3 by kernel_rfl).symm.trans hf) |>.symm
      obtain rfl : fn = Tryd.f3 := (Option.some.inj (Tryd.func3.symm.trans hfn)).symm
      exact ⟨by kernel_rfl, fun j t ht => by
        rw [Tryd.params3] at ht
        have hm : t ∈ [23] := by simpa using Array.mem_of_getElem? ht
        have hall : ([23].all fun u => !Tryd.prog.wantsStandIn u) = true := by kernel_rfl
        exact (show Tryd.prog.wantsStandIn t = false by simpa using List.all_eq_true.1 hall t hm)⟩)
    (by kernel_rfl)
theorem proved : Rows.FnExactEncodeStampSaid := over
end Go.Proofs.YtfcbpkbingmdeaaDoor.fnExactEncodeStamp
namespace Go.Proofs.YtfcbpkbingmdeaaDoor
/-- The row, under a short name, for the claim. -/
theorem fnExactEncodeStamp_holds : Rows.FnExactEncodeStampCardSaid := fnExactEncodeStamp.card
#print axioms fnExactEncodeStamp_holds
end Go.Proofs.YtfcbpkbingmdeaaDoor

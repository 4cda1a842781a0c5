/- A call of each function named here does what the Lean function of that name says. Conditions: each theorem's premises. Printed by the kit, repaired by a program, joined with texts by hand. -/
import Derived.Test.YtomigiindmojkaaQJx0
import Derived.Test.YtomigiindmojkaaQJx10
import Derived.Test.YtomigiindmojkaaQJx12
namespace Go.Proofs.Ytomigiindmojkaa.QJ
open Go.Proofs.Ytomigiindmojkaa.Base Go.RowKit Go.Proofs.YtomigiindmojkaaW.PrintWords Go.Proofs.YtomigiindmojkaaW.PrintLast Go.Proofs.YtomigiindmojkaaW.PrintMore
attribute [local go_sem] max2_int min2_int max_two min_two max_three min_three max_four min_four   -- for this text's walks alone
set_option linter.unusedVariables false
set_option linter.unusedSimpArgs false

def qx13_0 : Array Bool := #[false, false, false, false, false, false, false, false, false, false, false, false, false, false, false, false, false, false, false, false, false, false, false, false, false]
def qx13_1 : Array Bool := #[true, false, false, false, false, false, false, false, false, false, false, false, false, false, false, false, false, false, false, false, false, false, false, false, false]
def qx13_2 : Array Bool := #[true, true, false, false, false, false, false, false, false, false, false, false, false, false, false, false, false, false, false, false, false, false, false, false, false]
def qx13_3 : Array Bool := #[true, true, true, false, false, false, false, false, false, false, false, false, false, false, false, false, false, false, false, false, false, false, false, false, false]
def qx13_4 : Array Bool := #[true, true, true, true, false, false, false, false, false, false, false, false, false, false, false, false, false, false, false, false, false, false, false, false, false]
def qx13_5 : Array Bool := #[true, true, true, true, true, false, false, false, false, false, false, false, false, false, false, false, false, false, false, false, false, false, false, false, false]
def qx13_6 : Array Bool := #[true, true, true, true, true, true, false, false, false, false, false, false, false, false, false, false, false, false, false, false, false, false, false, false, false]
def qx13_7 : Array Bool := #[true, true, true, true, true, true, true, false, false, false, false, false, false, false, false, false, false, false, false, false, false, false, false, false, false]
def qx13_8 : Array Bool := #[true, true, true, true, true, true, true, true, false, false, false, false, false, false, false, false, false, false, false, false, false, false, false, false, false]
def qx13_9 : Array Bool := #[true, true, true, true, true, true, true, true, true, false, false, false, false, false, false, false, false, false, false, false, false, false, false, false, false]
def qx13_10 : Array Bool := #[true, true, true, true, true, true, true, true, true, true, false, false, false, false, false, false, false, false, false, false, false, false, false, false, false]
def qx13_11 : Array Bool := #[true, true, true, true, true, true, true, true, true, true, true, false, false, false, false, false, false, false, false, false, false, false, false, false, false]
def qx13_12 : Array Bool := #[true, true, true, true, true, true, true, true, true, true, true, true, false, false, false, false, false, false, false, false, false, false, false, false, false]
def qx13_13 : Array Bool := #[true, true, true, true, true, true, true, true, true, true, true, true, true, false, false, false, false, false, false, false, false, false, false, false, false]
def qx13_14 : Array Bool := #[true, true, true, true, true, true, true, true, true, true, true, true, true, true, false, false, false, false, false, false, false, false, false, false, false]
def qx13_15 : Array Bool := #[true, true, true, true, true, true, true, true, true, true, true, true, true, true, true, false, false, false, false, false, false, false, false, false, false]
def qx13_16 : Array Bool := #[true, true, true, true, true, true, true, true, true, true, true, true, true, true, true, true, true, true, true, true, false, false, false, false, false]
def qx13_17 : Array Bool := #[true, true, true, true, true, true, true, true, true, true, true, true, true, true, true, true, true, true, true, true, true, false, false, false, false]
def qx13_18 : Array Bool := #[true, true, true, true, true, true, true, true, true, true, true, true, true, true, true, true, true, true, true, true, true, true, false, false, false]
def qx13_19 : Array Bool := #[true, true, true, true, true, true, true, true, true, true, true, true, true, true, true, true, true, true, true, true, true, true, true, false, false]
def qx13_20 : Array Bool := #[true, true, true, true, true, true, true, true, true, true, true, true, true, true, true, true, true, true, true, true, true, true, true, true, false]
def qx13_21 : Array Bool := #[true, true, true, true, true, true, true, true, true, true, true, true, true, true, true, true, true, true, true, true, true, true, true, true, true]
def qx13_22 : Array Bool := #[true, true, true, true, true, true, true, true, true, true, true, true, true, true, true, false, true, false, false, false, false, false, false, false, false]
def qx13_23 : Array Bool := #[true, true, true, true, true, true, true, true, true, true, true, true, true, true, true, false, true, true, false, false, false, false, false, false, false]
def qx13_24 : Array Bool := #[true, true, true, true, true, true, true, true, true, true, true, true, true, true, true, false, true, true, true, false, false, false, false, false, false]
def qx13_25 : Array Bool := #[true, true, true, true, true, true, true, true, true, true, true, true, true, true, true, false, true, true, true, true, false, false, false, false, false]
def qx13_26 : Array Bool := #[true, true, true, true, true, true, true, true, true, true, true, true, true, true, true, true, false, false, false, false, false, false, false, false, false]
def qx13_27 : Array Bool := #[true, true, true, true, true, true, true, true, true, true, true, true, true, true, true, true, true, false, false, false, false, false, false, false, false]
def qx13_28 : Array Bool := #[true, true, true, true, true, true, true, true, true, true, true, true, true, true, true, true, true, true, false, false, false, false, false, false, false]
def qx13_29 : Array Bool := #[true, true, true, true, true, true, true, true, true, true, true, true, true, true, true, true, true, true, true, false, false, false, false, false, false]
/-! ### spec_validLog: function 48 -/
def spec_validLog.l0 : Nat → List (S30) → Int → Option (Bool)
 | 0, _, _ => none
 | k + 1, x0, x3 => if x3 < (x0.length : Int) then (if 0 ≤ x3 then ((spec_validOp.f ((rd_T30 x0 x3).f0.f0) ((rd_T30 x0 x3).f0.f1) ((rd_T30 x0 x3).f1) ((rd_T30 x0 x3).f2.f0) ((rd_T30 x0 x3).f2.f1) ((rd_T30 x0 x3).f3.f0) ((rd_T30 x0 x3).f3.f1) ((rd_T30 x0 x3).f4.f0) ((rd_T30 x0 x3).f4.f1) ((rd_T30 x0 x3).f5) ((rd_T30 x0 x3).f6) ((rd_T30 x0 x3).f7)).bind fun t155 => (if t155 = true then (if x3 > 0 then (if 0 ≤ (wrap64 (x3 - 1)) then (if (wrap64 (x3 - 1)) < (x0.length : Int) then ((spec_stampLess.f ((rd_T30 x0 (wrap64 (x3 - 1))).f0.f0) ((rd_T30 x0 (wrap64 (x3 - 1))).f0.f1) ((rd_T30 x0 x3).f0.f0) ((rd_T30 x0 x3).f0.f1)).bind fun t158 => (if t158 = true then (spec_validLog.l0 k x0 (wrap64 (x3 + 1))) else (some false))) else (none)) else (none)) else (spec_validLog.l0 k x0 (wrap64 (x3 + 1)))) else (some false))) else (none)) else (some (decide ((x0.length : Int) ≤ 40)))
def spec_validLog.f (k : Nat) (l0 : List (S30)) : Option (Bool) := spec_validLog.l0 k l0 0
theorem spec_validLog.mono_l : ∀ k, (∀ y0 y1, LeO (spec_validLog.l0 k y0 y1) (spec_validLog.l0 (k + 1) y0 y1))
 | 0 => fun _ _ r h => by simp [spec_validLog.l0] at h
 | k + 1 => by
  have ih0 := spec_validLog.mono_l k
  ·intro y0 y1
   unfold spec_validLog.l0
   repeat' first
   | (with_reducible exact ih0 _ _)
   | (with_reducible exact LeO.refl _)
   | (with_reducible exact LeO.none _)
   | (with_reducible refine LeO.ite ?_ ?_)
   | (with_reducible refine LeO.bind ?_ (fun _ => ?_))
theorem spec_validLog.mono : ∀ a0 k, LeO (spec_validLog.f k a0) (spec_validLog.f (k + 1) a0) := by
 intro a0 k
 have ih0 := spec_validLog.mono_l k
 unfold spec_validLog.f
 repeat' first
   | (with_reducible exact ih0 _ _)
   | (with_reducible exact LeO.refl _)
   | (with_reducible exact LeO.none _)
   | (with_reducible refine LeO.ite ?_ ?_)
   | (with_reducible refine LeO.bind ?_ (fun _ => ?_))
def spec_validLog.T4 : Bool × List (List Nat × List Nat) := (true, [([], []), ([], []), ([0, 1], [0, 1]), ([2], [2]), ([3], [3]), ([4], [4]), ([5, 4], [5]), ([6], [6]), ([7, 6], [6, 7]), ([8, 6, 6], [6, 8]), ([9], [9]), ([9], [9]), ([11, 9], [9, 11]), ([10, 12, 9], [9, 10, 12]), ([13, 9], [9, 13]), ([14, 9], [9, 14]), ([9], [9]), ([9], [9]), ([16, 17, 9], [9, 16, 17]), ([18, 9], [9, 18]), ([19, 9], [9, 19]), ([15, 20, 9, 9], [9, 15, 20]), ([21, 9], [9, 21]), ([9, 22, 6], [6, 9, 22]), ([6, 23], [6, 23])])
def spec_validLog.B4 : List Nat := [0, 0, 3, 7, 15, 31, 63, 127, 255, 511, 1023, 1023, 3071, 8191, 16383, 32767, 1023, 1023, 197631, 459775, 984063, 2097151, 4194303, 8388607, 16777215]
theorem spec_validLog.tab4 : rtab .any (opsOf Try.f48 4) = spec_validLog.T4 := by kernel_rfl
theorem spec_validLog.bits4 : waitsOk spec_validLog.T4.2 spec_validLog.B4 = true := by kernel_rfl
set_option maxHeartbeats 8000000 in
set_option maxRecDepth 100000 in
theorem spec_validLog.calls (k : Nat) (A0 : Option Addr) (c0 : Nat) (l0 : List (S30)) (r : Bool) (w : World) (hr0 : Kd.C k30 w A0 l0.length l0) (hc0 : l0.length ≤ c0) (h : spec_validLog.f k l0 = some r) :
  Calls Try.prog 48 #[.slice A0 l0.length c0] w fun e w' => e = .returned (.bool r) ∧ Below w.heap.size w w' := by
 have hu30 := Try.underlying30
 have hu28 := Try.underlying28
 have HR0 := am hr0
 have HC0 := am hc0
 clear hr0 hc0
 have HB := am (Below.refl w.heap.size w)
 have H : (spec_validLog.l0 k l0 0) = some r := h
 clear h
 have H' := am H
 clear H
 go_enter Try.func48, Try.ntmps48
 go_wp2
 go_loopg [3] k (fun kq v3 w' => ∃ (x3_1 : Int), v3 = .int .i64 x3_1 ∧ Aside0 (spec_validLog.l0 kq l0 x3_1 = some r) ∧ Aside0 (kq ≤ k) ∧ Aside0 (Below w.heap.size w w'))
 case atStart => exact ⟨(0), (by first | rfl | (simp; done) | (simp [*]; done)), H', ⟨Nat.le_refl _⟩, ⟨by repeat (first | (with_reducible first | exact HB.out | apply below_alloc | apply pw_below_drewN | apply below_drew1) | exact HB.out)⟩⟩
 case round =>
  clear H'
  obtain ⟨x3_1, rfl, HA, HK1, HB⟩ := hrel
  cases gk with
  | zero => exact absurd HA.out (by simp [spec_validLog.l0])
  | succ k1 =>
   have H := HA.out
   clear HA
   simp only [spec_validLog.l0] at H
   by_cases c2 : x3_1 < (l0.length : Int)
   ·rw [if_pos c2] at H
    have c2b0 : decide (x3_1 < (l0.length : Int)) = true := decide_eq_true c2
    clear c2
    by_cases c3 : 0 ≤ x3_1
    ·rw [if_pos c3] at H
     have c3b0 : decide (0 ≤ x3_1) = true := decide_eq_true c3
     clear c3
     replace H := Option.bind_eq_some_iff.mp H
     obtain ⟨t155, A40, H⟩ := H
     replace H : (if t155 = true then (if x3_1 > 0 then (if 0 ≤ (wrap64 (x3_1 - 1)) then (if (wrap64 (x3_1 - 1)) < (l0.length : Int) then ((spec_stampLess.f ((rd_T30 l0 (wrap64 (x3_1 - 1))).f0.f0) ((rd_T30 l0 (wrap64 (x3_1 - 1))).f0.f1) ((rd_T30 l0 x3_1).f0.f0) ((rd_T30 l0 x3_1).f0.f1)).bind fun t158 => (if t158 = true then (spec_validLog.l0 k1 l0 (wrap64 (x3_1 + 1))) else (some false))) else (none)) else (none)) else (spec_validLog.l0 k1 l0 (wrap64 (x3_1 + 1)))) else (some false)) = some r := H
     have A4 := am A40
     clear A40
     by_cases c5 : t155 = true
     ·subst c5
      have H1 : (if x3_1 > 0 then (if 0 ≤ (wrap64 (x3_1 - 1)) then (if (wrap64 (x3_1 - 1)) < (l0.length : Int) then ((spec_stampLess.f ((rd_T30 l0 (wrap64 (x3_1 - 1))).f0.f0) ((rd_T30 l0 (wrap64 (x3_1 - 1))).f0.f1) ((rd_T30 l0 x3_1).f0.f0) ((rd_T30 l0 x3_1).f0.f1)).bind fun t158 => (if t158 = true then (spec_validLog.l0 k1 l0 (wrap64 (x3_1 + 1))) else (some false))) else (none)) else (none)) else (spec_validLog.l0 k1 l0 (wrap64 (x3_1 + 1)))) = some r := by rw [if_pos rfl] at H; exact H
      clear H
      have H := H1
      clear H1
      by_cases c6 : x3_1 > 0
      ·rw [if_pos c6] at H
       have c6b0 : decide (0 < x3_1) = true := decide_eq_true c6
       clear c6
       obtain ⟨ji7, hji7⟩ : ∃ j_ : Int, (wrap64 (x3_1 - 1)) = j_ := ⟨_, rfl⟩
       replace H : (if 0 ≤ (ji7) then (if (ji7) < (l0.length : Int) then ((spec_stampLess.f ((rd_T30 l0 (ji7)).f0.f0) ((rd_T30 l0 (ji7)).f0.f1) ((rd_T30 l0 x3_1).f0.f0) ((rd_T30 l0 x3_1).f0.f1)).bind fun t158 => (if t158 = true then (spec_validLog.l0 k1 l0 (wrap64 (x3_1 + 1))) else (some false))) else (none)) else (none)) = some r := by first | (rw [hji7] at H; exact H) | (simp only [hji7] at H ⊢; exact H)
       (try rw [hji7] at A4)
       have hji7w : (IntKind.i64.wrap (x3_1 - 1)) = ji7 := (i64_w _).trans hji7
       by_cases c8 : 0 ≤ (ji7)
       ·rw [if_pos c8] at H
        have c8b0 : decide (0 ≤ (ji7)) = true := decide_eq_true c8
        clear c8
        by_cases c9 : (ji7) < (l0.length : Int)
        ·rw [if_pos c9] at H
         have c9b0 : decide ((ji7) < (l0.length : Int)) = true := decide_eq_true c9
         clear c9
         replace H := Option.bind_eq_some_iff.mp H
         obtain ⟨t158, A100, H⟩ := H
         replace H : (if t158 = true then (spec_validLog.l0 k1 l0 (wrap64 (x3_1 + 1))) else (some false)) = some r := H
         have A10 := am A100
         clear A100
         by_cases c11 : t158 = true
         ·subst c11
          have H1 : (spec_validLog.l0 k1 l0 (wrap64 (x3_1 + 1))) = some r := by rw [if_pos rfl] at H; exact H
          clear H
          have H := H1
          clear H1
          have H' := am H
          clear H
          try go_wp2
          have n0_ := am (below_drew1 HB.out)
          clear HB
          have HB := n0_
          clear n0_
          have p154 : 0 ≤ (x3_1 : Int) := of_decide_eq_true (by first | (with_reducible assumption) | assumption)
          have q154 : x3_1 < (l0.length : Int) := of_decide_eq_true (by first | (with_reducible assumption) | assumption)
          obtain ⟨ad154, e154, hx154_0, hx154_1, hx154_2, hx154_3, hx154_4, hx154_5, hx154_6, hx154_7, hx154_8, hx154_9, hx154_10, hx154_11⟩ := at_T30 HR0.out x3_1 p154 q154
          have hw154_11 := hx154_11
          have hw154_10 := hx154_10
          have hw154_9 := hx154_9
          have hw154_8 := hx154_8
          have hw154_7 := hx154_7
          have hw154_6 := hx154_6
          have hw154_5 := hx154_5
          have hw154_4 := hx154_4
          have hw154_3 := hx154_3
          have hw154_2 := hx154_2
          have hw154_1 := hx154_1
          have hw154_0 := hx154_0
          cases e154
          replace hx154_0 := cellUp HB.out hx154_0
          replace hx154_1 := cellUp HB.out hx154_1
          replace hx154_2 := cellUp HB.out hx154_2
          replace hx154_3 := cellUp HB.out hx154_3
          replace hx154_4 := cellUp HB.out hx154_4
          replace hx154_5 := cellUp HB.out hx154_5
          replace hx154_6 := cellUp HB.out hx154_6
          replace hx154_7 := cellUp HB.out hx154_7
          replace hx154_8 := cellUp HB.out hx154_8
          replace hx154_9 := cellUp HB.out hx154_9
          replace hx154_10 := cellUp HB.out hx154_10
          replace hx154_11 := cellUp HB.out hx154_11
          replace p154 := eq_true p154
          replace q154 := eq_true q154
          have p156 : 0 ≤ ((ji7) : Int) := of_decide_eq_true (by first | (with_reducible assumption) | assumption)
          have q156 : (ji7) < (l0.length : Int) := of_decide_eq_true (by first | (with_reducible assumption) | assumption)
          obtain ⟨ad156, e156, hx156_0, hx156_1, hx156_2, hx156_3, hx156_4, hx156_5, hx156_6, hx156_7, hx156_8, hx156_9, hx156_10, hx156_11⟩ := at_T30 HR0.out (ji7) p156 q156
          have hw156_11 := hx156_11
          have hw156_10 := hx156_10
          have hw156_9 := hx156_9
          have hw156_8 := hx156_8
          have hw156_7 := hx156_7
          have hw156_6 := hx156_6
          have hw156_5 := hx156_5
          have hw156_4 := hx156_4
          have hw156_3 := hx156_3
          have hw156_2 := hx156_2
          have hw156_1 := hx156_1
          have hw156_0 := hx156_0
          obtain rfl : ad154 = ad156 := (by injection e156)
          replace hx156_0 := cellUp HB.out hx156_0
          replace hx156_1 := cellUp HB.out hx156_1
          replace hx156_2 := cellUp HB.out hx156_2
          replace hx156_3 := cellUp HB.out hx156_3
          replace hx156_4 := cellUp HB.out hx156_4
          replace hx156_5 := cellUp HB.out hx156_5
          replace hx156_6 := cellUp HB.out hx156_6
          replace hx156_7 := cellUp HB.out hx156_7
          replace hx156_8 := cellUp HB.out hx156_8
          replace hx156_9 := cellUp HB.out hx156_9
          replace hx156_10 := cellUp HB.out hx156_10
          replace hx156_11 := cellUp HB.out hx156_11
          replace p156 := eq_true p156
          replace q156 := eq_true q156
          have p157 : 0 ≤ (x3_1 : Int) := of_decide_eq_true (by first | (with_reducible assumption) | assumption)
          have q157 : x3_1 < (l0.length : Int) := of_decide_eq_true (by first | (with_reducible assumption) | assumption)
          obtain ⟨ad157, e157, hx157_0, hx157_1, hx157_2, hx157_3, hx157_4, hx157_5, hx157_6, hx157_7, hx157_8, hx157_9, hx157_10, hx157_11⟩ := at_T30 HR0.out x3_1 p157 q157
          have hw157_11 := hx157_11
          have hw157_10 := hx157_10
          have hw157_9 := hx157_9
          have hw157_8 := hx157_8
          have hw157_7 := hx157_7
          have hw157_6 := hx157_6
          have hw157_5 := hx157_5
          have hw157_4 := hx157_4
          have hw157_3 := hx157_3
          have hw157_2 := hx157_2
          have hw157_1 := hx157_1
          have hw157_0 := hx157_0
          obtain rfl : ad154 = ad157 := (by injection e157)
          replace hx157_0 := cellUp HB.out hx157_0
          replace hx157_1 := cellUp HB.out hx157_1
          replace hx157_2 := cellUp HB.out hx157_2
          replace hx157_3 := cellUp HB.out hx157_3
          replace hx157_4 := cellUp HB.out hx157_4
          replace hx157_5 := cellUp HB.out hx157_5
          replace hx157_6 := cellUp HB.out hx157_6
          replace hx157_7 := cellUp HB.out hx157_7
          replace hx157_8 := cellUp HB.out hx157_8
          replace hx157_9 := cellUp HB.out hx157_9
          replace hx157_10 := cellUp HB.out hx157_10
          replace hx157_11 := cellUp HB.out hx157_11
          replace p157 := eq_true p157
          replace q157 := eq_true q157
          refine start_ (n := 25) (S := fun w' => w'.cell? (ad154.add ((x3_1).toNat * 12)) = some (.int .i64 ((rd_T30 l0 x3_1).f0.f0)) ∧ w'.cell? ⟨(ad154.add ((x3_1).toNat * 12)).block, (ad154.add ((x3_1).toNat * 12)).off + 1, none⟩ = some (.int .i64 ((rd_T30 l0 x3_1).f0.f1)) ∧ w'.cell? ⟨(ad154.add ((x3_1).toNat * 12)).block, (ad154.add ((x3_1).toNat * 12)).off + 2, none⟩ = some (.int .i64 ((rd_T30 l0 x3_1).f1)) ∧ w'.cell? ⟨(ad154.add ((x3_1).toNat * 12)).block, (ad154.add ((x3_1).toNat * 12)).off + 3, none⟩ = some (.int .i64 ((rd_T30 l0 x3_1).f2.f0)) ∧ w'.cell? ⟨(ad154.add ((x3_1).toNat * 12)).block, (ad154.add ((x3_1).toNat * 12)).off + 4, none⟩ = some (.int .i64 ((rd_T30 l0 x3_1).f2.f1)) ∧ w'.cell? ⟨(ad154.add ((x3_1).toNat * 12)).block, (ad154.add ((x3_1).toNat * 12)).off + 5, none⟩ = some (.int .i64 ((rd_T30 l0 x3_1).f3.f0)) ∧ w'.cell? ⟨(ad154.add ((x3_1).toNat * 12)).block, (ad154.add ((x3_1).toNat * 12)).off + 6, none⟩ = some (.int .i64 ((rd_T30 l0 x3_1).f3.f1)) ∧ w'.cell? ⟨(ad154.add ((x3_1).toNat * 12)).block, (ad154.add ((x3_1).toNat * 12)).off + 7, none⟩ = some (.int .i64 ((rd_T30 l0 x3_1).f4.f0)) ∧ w'.cell? ⟨(ad154.add ((x3_1).toNat * 12)).block, (ad154.add ((x3_1).toNat * 12)).off + 8, none⟩ = some (.int .i64 ((rd_T30 l0 x3_1).f4.f1)) ∧ w'.cell? ⟨(ad154.add ((x3_1).toNat * 12)).block, (ad154.add ((x3_1).toNat * 12)).off + 9, none⟩ = some (.int .i64 ((rd_T30 l0 x3_1).f5)) ∧ w'.cell? ⟨(ad154.add ((x3_1).toNat * 12)).block, (ad154.add ((x3_1).toNat * 12)).off + 10, none⟩ = some (.bool ((rd_T30 l0 x3_1).f6)) ∧ w'.cell? ⟨(ad154.add ((x3_1).toNat * 12)).block, (ad154.add ((x3_1).toNat * 12)).off + 11, none⟩ = some (.string ((rd_T30 l0 x3_1).f7)) ∧ w'.cell? (ad154.add (((ji7)).toNat * 12)) = some (.int .i64 ((rd_T30 l0 (ji7)).f0.f0)) ∧ w'.cell? ⟨(ad154.add (((ji7)).toNat * 12)).block, (ad154.add (((ji7)).toNat * 12)).off + 1, none⟩ = some (.int .i64 ((rd_T30 l0 (ji7)).f0.f1)) ∧ w'.cell? ⟨(ad154.add (((ji7)).toNat * 12)).block, (ad154.add (((ji7)).toNat * 12)).off + 2, none⟩ = some (.int .i64 ((rd_T30 l0 (ji7)).f1)) ∧ w'.cell? ⟨(ad154.add (((ji7)).toNat * 12)).block, (ad154.add (((ji7)).toNat * 12)).off + 3, none⟩ = some (.int .i64 ((rd_T30 l0 (ji7)).f2.f0)) ∧ w'.cell? ⟨(ad154.add (((ji7)).toNat * 12)).block, (ad154.add (((ji7)).toNat * 12)).off + 4, none⟩ = some (.int .i64 ((rd_T30 l0 (ji7)).f2.f1)) ∧ w'.cell? ⟨(ad154.add (((ji7)).toNat * 12)).block, (ad154.add (((ji7)).toNat * 12)).off + 5, none⟩ = some (.int .i64 ((rd_T30 l0 (ji7)).f3.f0)) ∧ w'.cell? ⟨(ad154.add (((ji7)).toNat * 12)).block, (ad154.add (((ji7)).toNat * 12)).off + 6, none⟩ = some (.int .i64 ((rd_T30 l0 (ji7)).f3.f1)) ∧ w'.cell? ⟨(ad154.add (((ji7)).toNat * 12)).block, (ad154.add (((ji7)).toNat * 12)).off + 7, none⟩ = some (.int .i64 ((rd_T30 l0 (ji7)).f4.f0)) ∧ w'.cell? ⟨(ad154.add (((ji7)).toNat * 12)).block, (ad154.add (((ji7)).toNat * 12)).off + 8, none⟩ = some (.int .i64 ((rd_T30 l0 (ji7)).f4.f1)) ∧ w'.cell? ⟨(ad154.add (((ji7)).toNat * 12)).block, (ad154.add (((ji7)).toNat * 12)).off + 9, none⟩ = some (.int .i64 ((rd_T30 l0 (ji7)).f5)) ∧ w'.cell? ⟨(ad154.add (((ji7)).toNat * 12)).block, (ad154.add (((ji7)).toNat * 12)).off + 10, none⟩ = some (.bool ((rd_T30 l0 (ji7)).f6)) ∧ w'.cell? ⟨(ad154.add (((ji7)).toNat * 12)).block, (ad154.add (((ji7)).toNat * 12)).off + 11, none⟩ = some (.string ((rd_T30 l0 (ji7)).f7)) ∧ w'.cell? (ad154.add ((x3_1).toNat * 12)) = some (.int .i64 ((rd_T30 l0 x3_1).f0.f0)) ∧ w'.cell? ⟨(ad154.add ((x3_1).toNat * 12)).block, (ad154.add ((x3_1).toNat * 12)).off + 1, none⟩ = some (.int .i64 ((rd_T30 l0 x3_1).f0.f1)) ∧ w'.cell? ⟨(ad154.add ((x3_1).toNat * 12)).block, (ad154.add ((x3_1).toNat * 12)).off + 2, none⟩ = some (.int .i64 ((rd_T30 l0 x3_1).f1)) ∧ w'.cell? ⟨(ad154.add ((x3_1).toNat * 12)).block, (ad154.add ((x3_1).toNat * 12)).off + 3, none⟩ = some (.int .i64 ((rd_T30 l0 x3_1).f2.f0)) ∧ w'.cell? ⟨(ad154.add ((x3_1).toNat * 12)).block, (ad154.add ((x3_1).toNat * 12)).off + 4, none⟩ = some (.int .i64 ((rd_T30 l0 x3_1).f2.f1)) ∧ w'.cell? ⟨(ad154.add ((x3_1).toNat * 12)).block, (ad154.add ((x3_1).toNat * 12)).off + 5, none⟩ = some (.int .i64 ((rd_T30 l0 x3_1).f3.f0)) ∧ w'.cell? ⟨(ad154.add ((x3_1).toNat * 12)).block, (ad154.add ((x3_1).toNat * 12)).off + 6, none⟩ = some (.int .i64 ((rd_T30 l0 x3_1).f3.f1)) ∧ w'.cell? ⟨(ad154.add ((x3_1).toNat * 12)).block, (ad154.add ((x3_1).toNat * 12)).off + 7, none⟩ = some (.int .i64 ((rd_T30 l0 x3_1).f4.f0)) ∧ w'.cell? ⟨(ad154.add ((x3_1).toNat * 12)).block, (ad154.add ((x3_1).toNat * 12)).off + 8, none⟩ = some (.int .i64 ((rd_T30 l0 x3_1).f4.f1)) ∧ w'.cell? ⟨(ad154.add ((x3_1).toNat * 12)).block, (ad154.add ((x3_1).toNat * 12)).off + 9, none⟩ = some (.int .i64 ((rd_T30 l0 x3_1).f5)) ∧ w'.cell? ⟨(ad154.add ((x3_1).toNat * 12)).block, (ad154.add ((x3_1).toNat * 12)).off + 10, none⟩ = some (.bool ((rd_T30 l0 x3_1).f6)) ∧ w'.cell? ⟨(ad154.add ((x3_1).toNat * 12)).block, (ad154.add ((x3_1).toNat * 12)).off + 11, none⟩ = some (.string ((rd_T30 l0 x3_1).f7))) (ds := []) qx13_0 (by kernel_rfl) rfl rfl ⟨((HB.out.cell (World.block_lt_of_cell? w _ hw154_0)).trans hw154_0), ((HB.out.cell (World.block_lt_of_cell? w _ hw154_1)).trans hw154_1), ((HB.out.cell (World.block_lt_of_cell? w _ hw154_2)).trans hw154_2), ((HB.out.cell (World.block_lt_of_cell? w _ hw154_3)).trans hw154_3), ((HB.out.cell (World.block_lt_of_cell? w _ hw154_4)).trans hw154_4), ((HB.out.cell (World.block_lt_of_cell? w _ hw154_5)).trans hw154_5), ((HB.out.cell (World.block_lt_of_cell? w _ hw154_6)).trans hw154_6), ((HB.out.cell (World.block_lt_of_cell? w _ hw154_7)).trans hw154_7), ((HB.out.cell (World.block_lt_of_cell? w _ hw154_8)).trans hw154_8), ((HB.out.cell (World.block_lt_of_cell? w _ hw154_9)).trans hw154_9), ((HB.out.cell (World.block_lt_of_cell? w _ hw154_10)).trans hw154_10), ((HB.out.cell (World.block_lt_of_cell? w _ hw154_11)).trans hw154_11), ((HB.out.cell (World.block_lt_of_cell? w _ hw156_0)).trans hw156_0), ((HB.out.cell (World.block_lt_of_cell? w _ hw156_1)).trans hw156_1), ((HB.out.cell (World.block_lt_of_cell? w _ hw156_2)).trans hw156_2), ((HB.out.cell (World.block_lt_of_cell? w _ hw156_3)).trans hw156_3), ((HB.out.cell (World.block_lt_of_cell? w _ hw156_4)).trans hw156_4), ((HB.out.cell (World.block_lt_of_cell? w _ hw156_5)).trans hw156_5), ((HB.out.cell (World.block_lt_of_cell? w _ hw156_6)).trans hw156_6), ((HB.out.cell (World.block_lt_of_cell? w _ hw156_7)).trans hw156_7), ((HB.out.cell (World.block_lt_of_cell? w _ hw156_8)).trans hw156_8), ((HB.out.cell (World.block_lt_of_cell? w _ hw156_9)).trans hw156_9), ((HB.out.cell (World.block_lt_of_cell? w _ hw156_10)).trans hw156_10), ((HB.out.cell (World.block_lt_of_cell? w _ hw156_11)).trans hw156_11), ((HB.out.cell (World.block_lt_of_cell? w _ hw157_0)).trans hw157_0), ((HB.out.cell (World.block_lt_of_cell? w _ hw157_1)).trans hw157_1), ((HB.out.cell (World.block_lt_of_cell? w _ hw157_2)).trans hw157_2), ((HB.out.cell (World.block_lt_of_cell? w _ hw157_3)).trans hw157_3), ((HB.out.cell (World.block_lt_of_cell? w _ hw157_4)).trans hw157_4), ((HB.out.cell (World.block_lt_of_cell? w _ hw157_5)).trans hw157_5), ((HB.out.cell (World.block_lt_of_cell? w _ hw157_6)).trans hw157_6), ((HB.out.cell (World.block_lt_of_cell? w _ hw157_7)).trans hw157_7), ((HB.out.cell (World.block_lt_of_cell? w _ hw157_8)).trans hw157_8), ((HB.out.cell (World.block_lt_of_cell? w _ hw157_9)).trans hw157_9), ((HB.out.cell (World.block_lt_of_cell? w _ hw157_10)).trans hw157_10), ((HB.out.cell (World.block_lt_of_cell? w _ hw157_11)).trans hw157_11)⟩ (fun hHeld => ?_); refine with_tabW spec_validLog.tab4 spec_validLog.bits4 (fun HT_ HW_ => ?_)
          generalize wr.drew = w12 at HB hx154_0 hx154_1 hx154_10 hx154_11 hx154_2 hx154_3 hx154_4 hx154_5 hx154_6 hx154_7 hx154_8 hx154_9 hx156_0 hx156_1 hx156_10 hx156_11 hx156_2 hx156_3 hx156_4 hx156_5 hx156_6 hx156_7 hx156_8 hx156_9 hx157_0 hx157_1 hx157_10 hx157_11 hx157_2 hx157_3 hx157_4 hx157_5 hx157_6 hx157_7 hx157_8 hx157_9 hHeld ⊢
          refine pure_ (i := 0) (N := some 10) (v := ?_) (a' := ?_) qx13_1 rfl rfl (any_of HT_.out (by kernel_rfl)) (fun _ _ _ h => h) (Or.inl ⟨by rfl, ?_⟩) ?_ ?_
          rotate_left
          ·intro w'
           go_simp
           with_reducible rfl
          rotate_left
          ·simp only [putS]
           rfl
          refine pure_ (i := 1) (N := some 11) (v := ?_) (a' := ?_) qx13_2 rfl rfl (any_of HT_.out (by kernel_rfl)) (fun _ _ _ h => h) (Or.inl ⟨by rfl, ?_⟩) ?_ ?_
          rotate_left
          ·intro w'
           go_simp
           with_reducible rfl
          rotate_left
          ·simp only [putS]
           rfl
          refine pure_ (i := 2) (N := some 12) (v := ?_) (a' := ?_) qx13_3 rfl rfl (any_of HT_.out (by kernel_rfl)) (fun _ _ _ h => h) (Or.inl ⟨by rfl, ?_⟩) ?_ ?_
          rotate_left
          ·intro w'
           go_simp
           with_reducible rfl
          rotate_left
          ·simp only [putS]
           rfl
          refine take_ (i := 3) (N := some 13) (v := ?_) (a' := ?_) qx13_4 rfl rfl (take_ofW HT_.out HW_.out (by kernel_rfl)) (fun _ _ _ h => h) (Or.inl ⟨by rfl, ?_⟩) hHeld ?_ ?_
          rotate_left
          ·rintro w' ⟨s0, s1, s2, s3, s4, s5, s6, s7, s8, s9, s10, s11, s12, s13, s14, s15, s16, s17, s18, s19, s20, s21, s22, s23, s24, s25, s26, s27, s28, s29, s30, s31, s32, s33, s34, s35⟩
           go_simp
           with_reducible rfl
          rotate_left
          ·simp only [putS]
           rfl
          refine one_ (i := 4) (N := some 14) qx13_5 rfl rfl (one_of HT_.out (by kernel_rfl)) (by decide) (fun K hK => ?_)
          refine goes_ Try.func41 (by kernel_rfl) rfl #[.agg #[.int .i64 ((rd_T30 l0 x3_1).f0.f0), .int .i64 ((rd_T30 l0 x3_1).f0.f1), .int .i64 ((rd_T30 l0 x3_1).f1), .int .i64 ((rd_T30 l0 x3_1).f2.f0), .int .i64 ((rd_T30 l0 x3_1).f2.f1), .int .i64 ((rd_T30 l0 x3_1).f3.f0), .int .i64 ((rd_T30 l0 x3_1).f3.f1), .int .i64 ((rd_T30 l0 x3_1).f4.f0), .int .i64 ((rd_T30 l0 x3_1).f4.f1), .int .i64 ((rd_T30 l0 x3_1).f5), .bool ((rd_T30 l0 x3_1).f6), .string ((rd_T30 l0 x3_1).f7)]] (by rfl) rfl rfl (by (try simp only [List.map_toArray, List.map_cons, List.map_nil]); first | done | rfl | (simp only [List.length_drop, List.length_take]; rfl)) ?_
          with_reducible refine (spec_validOp.calls ((rd_T30 l0 x3_1).f0.f0) ((rd_T30 l0 x3_1).f0.f1) ((rd_T30 l0 x3_1).f1) ((rd_T30 l0 x3_1).f2.f0) ((rd_T30 l0 x3_1).f2.f1) ((rd_T30 l0 x3_1).f3.f0) ((rd_T30 l0 x3_1).f3.f1) ((rd_T30 l0 x3_1).f4.f0) ((rd_T30 l0 x3_1).f4.f1) ((rd_T30 l0 x3_1).f5) ((rd_T30 l0 x3_1).f6) ((rd_T30 l0 x3_1).f7) true _ A4.out).mono ?_
          rintro e w13 ⟨rfl, hb⟩
          refine ⟨_, rfl, ?_⟩
          have n0_ := am (below_step (by repeat (first | (with_reducible first | exact HB.out | apply below_alloc | apply pw_below_drewN | apply below_drew1) | exact HB.out)) hb)
          clear HB
          have HB := n0_
          clear n0_
          (try clear hb)
          (try clear hb2)
          (try clear hk)
          (try clear hi)
          refine hK.out _ _ ⟨((HB.out.cell (World.block_lt_of_cell? w _ hw154_0)).trans hw154_0), ((HB.out.cell (World.block_lt_of_cell? w _ hw154_1)).trans hw154_1), ((HB.out.cell (World.block_lt_of_cell? w _ hw154_2)).trans hw154_2), ((HB.out.cell (World.block_lt_of_cell? w _ hw154_3)).trans hw154_3), ((HB.out.cell (World.block_lt_of_cell? w _ hw154_4)).trans hw154_4), ((HB.out.cell (World.block_lt_of_cell? w _ hw154_5)).trans hw154_5), ((HB.out.cell (World.block_lt_of_cell? w _ hw154_6)).trans hw154_6), ((HB.out.cell (World.block_lt_of_cell? w _ hw154_7)).trans hw154_7), ((HB.out.cell (World.block_lt_of_cell? w _ hw154_8)).trans hw154_8), ((HB.out.cell (World.block_lt_of_cell? w _ hw154_9)).trans hw154_9), ((HB.out.cell (World.block_lt_of_cell? w _ hw154_10)).trans hw154_10), ((HB.out.cell (World.block_lt_of_cell? w _ hw154_11)).trans hw154_11), ((HB.out.cell (World.block_lt_of_cell? w _ hw156_0)).trans hw156_0), ((HB.out.cell (World.block_lt_of_cell? w _ hw156_1)).trans hw156_1), ((HB.out.cell (World.block_lt_of_cell? w _ hw156_2)).trans hw156_2), ((HB.out.cell (World.block_lt_of_cell? w _ hw156_3)).trans hw156_3), ((HB.out.cell (World.block_lt_of_cell? w _ hw156_4)).trans hw156_4), ((HB.out.cell (World.block_lt_of_cell? w _ hw156_5)).trans hw156_5), ((HB.out.cell (World.block_lt_of_cell? w _ hw156_6)).trans hw156_6), ((HB.out.cell (World.block_lt_of_cell? w _ hw156_7)).trans hw156_7), ((HB.out.cell (World.block_lt_of_cell? w _ hw156_8)).trans hw156_8), ((HB.out.cell (World.block_lt_of_cell? w _ hw156_9)).trans hw156_9), ((HB.out.cell (World.block_lt_of_cell? w _ hw156_10)).trans hw156_10), ((HB.out.cell (World.block_lt_of_cell? w _ hw156_11)).trans hw156_11), ((HB.out.cell (World.block_lt_of_cell? w _ hw157_0)).trans hw157_0), ((HB.out.cell (World.block_lt_of_cell? w _ hw157_1)).trans hw157_1), ((HB.out.cell (World.block_lt_of_cell? w _ hw157_2)).trans hw157_2), ((HB.out.cell (World.block_lt_of_cell? w _ hw157_3)).trans hw157_3), ((HB.out.cell (World.block_lt_of_cell? w _ hw157_4)).trans hw157_4), ((HB.out.cell (World.block_lt_of_cell? w _ hw157_5)).trans hw157_5), ((HB.out.cell (World.block_lt_of_cell? w _ hw157_6)).trans hw157_6), ((HB.out.cell (World.block_lt_of_cell? w _ hw157_7)).trans hw157_7), ((HB.out.cell (World.block_lt_of_cell? w _ hw157_8)).trans hw157_8), ((HB.out.cell (World.block_lt_of_cell? w _ hw157_9)).trans hw157_9), ((HB.out.cell (World.block_lt_of_cell? w _ hw157_10)).trans hw157_10), ((HB.out.cell (World.block_lt_of_cell? w _ hw157_11)).trans hw157_11)⟩ (fun hHeld => ?_)
          clear hK K
          refine norm_ (a' := ?_) ?_ ?_
          rotate_left
          ·show Act.put _ (some 14) _ = _
           simp only [putS]
           rfl
          refine pure_ (i := 5) (N := some 15) (v := ?_) (a' := ?_) qx13_6 rfl rfl (any_of HT_.out (by kernel_rfl)) (fun _ _ _ h => h) (Or.inl ⟨by rfl, ?_⟩) ?_ ?_
          rotate_left
          ·intro w'
           go_simp
           with_reducible rfl
          rotate_left
          ·simp only [putS]
           rfl
          refine pure_ (i := 6) (N := some 16) (v := ?_) (a' := ?_) qx13_7 rfl rfl (any_of HT_.out (by kernel_rfl)) (fun _ _ _ h => h) (Or.inl ⟨by rfl, ?_⟩) ?_ ?_
          rotate_left
          ·intro w'
           go_simp
           with_reducible rfl
          rotate_left
          ·simp only [putS]
           rfl
          refine pure_ (i := 7) (N := some 17) (v := ?_) (a' := ?_) qx13_8 rfl rfl (any_of HT_.out (by kernel_rfl)) (fun _ _ _ h => h) (Or.inl ⟨by rfl, ?_⟩) ?_ ?_
          rotate_left
          ·intro w'
           go_simp
           with_reducible rfl
          rotate_left
          ·simp only [putS]
           rfl
          refine pure_ (i := 8) (N := some 18) (v := ?_) (a' := ?_) qx13_9 rfl rfl (any_of HT_.out (by kernel_rfl)) (fun _ _ _ h => h) (Or.inl ⟨by rfl, ?_⟩) ?_ ?_
          rotate_left
          ·intro w'
           go_simp
           with_reducible rfl
          rotate_left
          ·simp only [putS]
           rfl
          refine pure_ (i := 9) (N := some 19) (v := ?_) (a' := ?_) qx13_10 rfl rfl (any_of HT_.out (by kernel_rfl)) (fun _ _ _ h => h) (Or.inl ⟨by rfl, ?_⟩) ?_ ?_
          rotate_left
          ·intro w'
           go_simp
           with_reducible rfl
          rotate_left
          ·simp only [putS]
           rfl
          refine pure_ (i := 10) (N := some 20) (v := ?_) (a' := ?_) qx13_11 rfl rfl (any_of HT_.out (by kernel_rfl)) (fun _ _ _ h => h) (Or.inl ⟨by rfl, ?_⟩) ?_ ?_
          rotate_left
          ·intro w'
           go_simp
           with_reducible rfl
          rotate_left
          ·simp only [putS]
           rfl
          refine pure_ (i := 11) (N := some 21) (v := ?_) (a' := ?_) qx13_12 rfl rfl (any_of HT_.out (by kernel_rfl)) (fun _ _ _ h => h) (Or.inl ⟨by rfl, ?_⟩) ?_ ?_
          rotate_left
          ·intro w'
           go_simp
           with_reducible rfl
          rotate_left
          ·simp only [putS]
           rfl
          refine pure_ (i := 12) (N := some 22) (v := ?_) (a' := ?_) qx13_13 rfl rfl (any_of HT_.out (by kernel_rfl)) (fun _ _ _ h => h) (Or.inl ⟨by rfl, ?_⟩) ?_ ?_
          rotate_left
          ·intro w'
           go_simp
           with_reducible rfl
          rotate_left
          ·simp only [putS]
           rfl
          refine pure_ (i := 13) (N := some 23) (v := ?_) (a' := ?_) qx13_14 rfl rfl (any_of HT_.out (by kernel_rfl)) (fun _ _ _ h => h) (Or.inl ⟨by rfl, ?_⟩) ?_ ?_
          rotate_left
          ·intro w'
           go_simp
           with_reducible rfl
          rotate_left
          ·simp only [putS]
           rfl
          refine pure_ (i := 14) (N := some 24) (v := ?_) (a' := ?_) qx13_15 rfl rfl (any_of HT_.out (by kernel_rfl)) (fun _ _ _ h => h) (Or.inl ⟨by rfl, ?_⟩) ?_ ?_
          rotate_left
          ·intro w'
           go_simp
           with_reducible rfl
          rotate_left
          ·simp only [putS]
           rfl
          refine pure_ (i := 16) (N := some 26) (v := ?_) (a' := ?_) qx13_22 rfl rfl (any_of HT_.out (by kernel_rfl)) (fun _ _ _ h => h) (Or.inl ⟨by rfl, ?_⟩) ?_ ?_
          rotate_left
          ·intro w'
           go_simp
           with_reducible rfl
          rotate_left
          ·simp only [putS]
           rfl
          refine pure_ (i := 17) (N := some 27) (v := ?_) (a' := ?_) qx13_23 rfl rfl (any_of HT_.out (by kernel_rfl)) (fun _ _ _ h => h) (Or.inl ⟨by rfl, ?_⟩) ?_ ?_
          rotate_left
          ·intro w'
           go_simp
           with_reducible rfl
          rotate_left
          ·simp only [putS]
           rfl
          refine pure_ (i := 18) (N := some 28) (v := ?_) (a' := ?_) qx13_24 rfl rfl (any_of HT_.out (by kernel_rfl)) (fun _ _ _ h => h) (Or.inl ⟨by rfl, ?_⟩) ?_ ?_
          rotate_left
          ·intro w'
           go_simp
           with_reducible rfl
          rotate_left
          ·simp only [putS]
           rfl
          refine pure_ (i := 19) (N := some 29) (v := ?_) (a' := ?_) qx13_25 rfl rfl (any_of HT_.out (by kernel_rfl)) (fun _ _ _ h => h) (Or.inl ⟨by rfl, ?_⟩) ?_ ?_
          rotate_left
          ·intro w'
           go_simp
           with_reducible rfl
          rotate_left
          ·simp only [putS]
           rfl
          refine take_ (i := 15) (N := some 25) (v := ?_) (a' := ?_) qx13_16 rfl rfl (take_ofW HT_.out HW_.out (by kernel_rfl)) (fun _ _ _ h => h) (Or.inl ⟨by rfl, ?_⟩) hHeld ?_ ?_
          rotate_left
          ·rintro w' ⟨s0, s1, s2, s3, s4, s5, s6, s7, s8, s9, s10, s11, s12, s13, s14, s15, s16, s17, s18, s19, s20, s21, s22, s23, s24, s25, s26, s27, s28, s29, s30, s31, s32, s33, s34, s35⟩
           go_simp
           with_reducible rfl
          rotate_left
          ·simp only [putS]
           rfl
          refine take_ (i := 20) (N := some 30) (v := ?_) (a' := ?_) qx13_17 rfl rfl (take_ofW HT_.out HW_.out (by kernel_rfl)) (fun _ _ _ h => h) (Or.inl ⟨by rfl, ?_⟩) hHeld ?_ ?_
          rotate_left
          ·rintro w' ⟨s0, s1, s2, s3, s4, s5, s6, s7, s8, s9, s10, s11, s12, s13, s14, s15, s16, s17, s18, s19, s20, s21, s22, s23, s24, s25, s26, s27, s28, s29, s30, s31, s32, s33, s34, s35⟩
           go_simp
           with_reducible rfl
          rotate_left
          ·simp only [putS]
           rfl
          refine one_ (i := 21) (N := some 31) qx13_18 rfl rfl (one_of HT_.out (by kernel_rfl)) (by decide) (fun K hK => ?_)
          refine goes_ Try.func67 (by kernel_rfl) rfl #[.agg #[.int .i64 ((rd_T30 l0 (ji7)).f0.f0), .int .i64 ((rd_T30 l0 (ji7)).f0.f1)], .agg #[.int .i64 ((rd_T30 l0 x3_1).f0.f0), .int .i64 ((rd_T30 l0 x3_1).f0.f1)]] (by rfl) rfl rfl (by (try simp only [List.map_toArray, List.map_cons, List.map_nil]); first | done | (simp only [hji7]; rfl) | rfl | (simp only [List.length_drop, List.length_take]; rfl)) ?_
          with_reducible refine (spec_stampLess.calls ((rd_T30 l0 (ji7)).f0.f0) ((rd_T30 l0 (ji7)).f0.f1) ((rd_T30 l0 x3_1).f0.f0) ((rd_T30 l0 x3_1).f0.f1) true _ A10.out).mono ?_
          rintro e w14 ⟨rfl, hb⟩
          refine ⟨_, rfl, ?_⟩
          have n0_ := am (below_step (by repeat (first | (with_reducible first | exact HB.out | apply below_alloc | apply pw_below_drewN | apply below_drew1) | exact HB.out)) hb)
          clear HB
          have HB := n0_
          clear n0_
          (try clear hb)
          (try clear hb2)
          (try clear hk)
          (try clear hi)
          refine hK.out _ _ ⟨((HB.out.cell (World.block_lt_of_cell? w _ hw154_0)).trans hw154_0), ((HB.out.cell (World.block_lt_of_cell? w _ hw154_1)).trans hw154_1), ((HB.out.cell (World.block_lt_of_cell? w _ hw154_2)).trans hw154_2), ((HB.out.cell (World.block_lt_of_cell? w _ hw154_3)).trans hw154_3), ((HB.out.cell (World.block_lt_of_cell? w _ hw154_4)).trans hw154_4), ((HB.out.cell (World.block_lt_of_cell? w _ hw154_5)).trans hw154_5), ((HB.out.cell (World.block_lt_of_cell? w _ hw154_6)).trans hw154_6), ((HB.out.cell (World.block_lt_of_cell? w _ hw154_7)).trans hw154_7), ((HB.out.cell (World.block_lt_of_cell? w _ hw154_8)).trans hw154_8), ((HB.out.cell (World.block_lt_of_cell? w _ hw154_9)).trans hw154_9), ((HB.out.cell (World.block_lt_of_cell? w _ hw154_10)).trans hw154_10), ((HB.out.cell (World.block_lt_of_cell? w _ hw154_11)).trans hw154_11), ((HB.out.cell (World.block_lt_of_cell? w _ hw156_0)).trans hw156_0), ((HB.out.cell (World.block_lt_of_cell? w _ hw156_1)).trans hw156_1), ((HB.out.cell (World.block_lt_of_cell? w _ hw156_2)).trans hw156_2), ((HB.out.cell (World.block_lt_of_cell? w _ hw156_3)).trans hw156_3), ((HB.out.cell (World.block_lt_of_cell? w _ hw156_4)).trans hw156_4), ((HB.out.cell (World.block_lt_of_cell? w _ hw156_5)).trans hw156_5), ((HB.out.cell (World.block_lt_of_cell? w _ hw156_6)).trans hw156_6), ((HB.out.cell (World.block_lt_of_cell? w _ hw156_7)).trans hw156_7), ((HB.out.cell (World.block_lt_of_cell? w _ hw156_8)).trans hw156_8), ((HB.out.cell (World.block_lt_of_cell? w _ hw156_9)).trans hw156_9), ((HB.out.cell (World.block_lt_of_cell? w _ hw156_10)).trans hw156_10), ((HB.out.cell (World.block_lt_of_cell? w _ hw156_11)).trans hw156_11), ((HB.out.cell (World.block_lt_of_cell? w _ hw157_0)).trans hw157_0), ((HB.out.cell (World.block_lt_of_cell? w _ hw157_1)).trans hw157_1), ((HB.out.cell (World.block_lt_of_cell? w _ hw157_2)).trans hw157_2), ((HB.out.cell (World.block_lt_of_cell? w _ hw157_3)).trans hw157_3), ((HB.out.cell (World.block_lt_of_cell? w _ hw157_4)).trans hw157_4), ((HB.out.cell (World.block_lt_of_cell? w _ hw157_5)).trans hw157_5), ((HB.out.cell (World.block_lt_of_cell? w _ hw157_6)).trans hw157_6), ((HB.out.cell (World.block_lt_of_cell? w _ hw157_7)).trans hw157_7), ((HB.out.cell (World.block_lt_of_cell? w _ hw157_8)).trans hw157_8), ((HB.out.cell (World.block_lt_of_cell? w _ hw157_9)).trans hw157_9), ((HB.out.cell (World.block_lt_of_cell? w _ hw157_10)).trans hw157_10), ((HB.out.cell (World.block_lt_of_cell? w _ hw157_11)).trans hw157_11)⟩ (fun hHeld => ?_)
          clear hK K
          refine norm_ (a' := ?_) ?_ ?_
          rotate_left
          ·show Act.put _ (some 31) _ = _
           simp only [putS]
           rfl
          refine pure_ (i := 22) (N := some 32) (v := ?_) (a' := ?_) qx13_19 rfl rfl (any_of HT_.out (by kernel_rfl)) (fun _ _ _ h => h) (Or.inl ⟨by rfl, ?_⟩) ?_ ?_
          rotate_left
          ·intro w'
           go_simp
           with_reducible rfl
          rotate_left
          ·simp only [putS]
           rfl
          refine pure_ (i := 23) (N := some 33) (v := ?_) (a' := ?_) qx13_20 rfl rfl (any_of HT_.out (by kernel_rfl)) (fun _ _ _ h => h) (Or.inl ⟨by rfl, ?_⟩) ?_ ?_
          rotate_left
          ·intro w'
           go_simp
           with_reducible rfl
          rotate_left
          ·simp only [putS]
           rfl
          refine pure_ (i := 24) (N := some 34) (v := ?_) (a' := ?_) qx13_21 rfl rfl (any_of HT_.out (by kernel_rfl)) (fun _ _ _ h => h) (Or.inl ⟨by rfl, ?_⟩) ?_ ?_
          rotate_left
          ·intro w'
           go_simp
           with_reducible rfl
          rotate_left
          ·simp only [putS]
           rfl
          refine done_ (done_of HT_.out (by kernel_rfl)) ?_
          try go_wp2
          go_roundg k1
          case measure => have := HK1.out; omega
          case rel => exact ⟨(wrap64 (x3_1 + 1)), (by first | rfl | (simp; done) | (simp [*]; done)), H', ⟨by have := HK1.out; omega⟩, ⟨by repeat (first | (with_reducible first | exact HB.out | apply below_alloc | apply pw_below_drewN | apply below_drew1) | exact HB.out)⟩⟩
         ·replace c11 := Bool.eq_false_iff.mpr c11
          subst c11
          have H1 : (some false) = some r := by rw [if_neg (show ¬ (false = true) by decide)] at H; exact H
          clear H
          have H := H1
          clear H1
          obtain rfl := Option.some.inj H
          try go_wp2
          have n0_ := am (below_drew1 HB.out)
          clear HB
          have HB := n0_
          clear n0_
          have p154 : 0 ≤ (x3_1 : Int) := of_decide_eq_true (by first | (with_reducible assumption) | assumption)
          have q154 : x3_1 < (l0.length : Int) := of_decide_eq_true (by first | (with_reducible assumption) | assumption)
          obtain ⟨ad154, e154, hx154_0, hx154_1, hx154_2, hx154_3, hx154_4, hx154_5, hx154_6, hx154_7, hx154_8, hx154_9, hx154_10, hx154_11⟩ := at_T30 HR0.out x3_1 p154 q154
          have hw154_11 := hx154_11
          have hw154_10 := hx154_10
          have hw154_9 := hx154_9
          have hw154_8 := hx154_8
          have hw154_7 := hx154_7
          have hw154_6 := hx154_6
          have hw154_5 := hx154_5
          have hw154_4 := hx154_4
          have hw154_3 := hx154_3
          have hw154_2 := hx154_2
          have hw154_1 := hx154_1
          have hw154_0 := hx154_0
          cases e154
          replace hx154_0 := cellUp HB.out hx154_0
          replace hx154_1 := cellUp HB.out hx154_1
          replace hx154_2 := cellUp HB.out hx154_2
          replace hx154_3 := cellUp HB.out hx154_3
          replace hx154_4 := cellUp HB.out hx154_4
          replace hx154_5 := cellUp HB.out hx154_5
          replace hx154_6 := cellUp HB.out hx154_6
          replace hx154_7 := cellUp HB.out hx154_7
          replace hx154_8 := cellUp HB.out hx154_8
          replace hx154_9 := cellUp HB.out hx154_9
          replace hx154_10 := cellUp HB.out hx154_10
          replace hx154_11 := cellUp HB.out hx154_11
          replace p154 := eq_true p154
          replace q154 := eq_true q154
          have p156 : 0 ≤ ((ji7) : Int) := of_decide_eq_true (by first | (with_reducible assumption) | assumption)
          have q156 : (ji7) < (l0.length : Int) := of_decide_eq_true (by first | (with_reducible assumption) | assumption)
          obtain ⟨ad156, e156, hx156_0, hx156_1, hx156_2, hx156_3, hx156_4, hx156_5, hx156_6, hx156_7, hx156_8, hx156_9, hx156_10, hx156_11⟩ := at_T30 HR0.out (ji7) p156 q156
          have hw156_11 := hx156_11
          have hw156_10 := hx156_10
          have hw156_9 := hx156_9
          have hw156_8 := hx156_8
          have hw156_7 := hx156_7
          have hw156_6 := hx156_6
          have hw156_5 := hx156_5
          have hw156_4 := hx156_4
          have hw156_3 := hx156_3
          have hw156_2 := hx156_2
          have hw156_1 := hx156_1
          have hw156_0 := hx156_0
          obtain rfl : ad154 = ad156 := (by injection e156)
          replace hx156_0 := cellUp HB.out hx156_0
          replace hx156_1 := cellUp HB.out hx156_1
          replace hx156_2 := cellUp HB.out hx156_2
          replace hx156_3 := cellUp HB.out hx156_3
          replace hx156_4 := cellUp HB.out hx156_4
          replace hx156_5 := cellUp HB.out hx156_5
          replace hx156_6 := cellUp HB.out hx156_6
          replace hx156_7 := cellUp HB.out hx156_7
          replace hx156_8 := cellUp HB.out hx156_8
          replace hx156_9 := cellUp HB.out hx156_9
          replace hx156_10 := cellUp HB.out hx156_10
          replace hx156_11 := cellUp HB.out hx156_11
          replace p156 := eq_true p156
          replace q156 := eq_true q156
          have p157 : 0 ≤ (x3_1 : Int) := of_decide_eq_true (by first | (with_reducible assumption) | assumption)
          have q157 : x3_1 < (l0.length : Int) := of_decide_eq_true (by first | (with_reducible assumption) | assumption)
          obtain ⟨ad157, e157, hx157_0, hx157_1, hx157_2, hx157_3, hx157_4, hx157_5, hx157_6, hx157_7, hx157_8, hx157_9, hx157_10, hx157_11⟩ := at_T30 HR0.out x3_1 p157 q157
          have hw157_11 := hx157_11
          have hw157_10 := hx157_10
          have hw157_9 := hx157_9
          have hw157_8 := hx157_8
          have hw157_7 := hx157_7
          have hw157_6 := hx157_6
          have hw157_5 := hx157_5
          have hw157_4 := hx157_4
          have hw157_3 := hx157_3
          have hw157_2 := hx157_2
          have hw157_1 := hx157_1
          have hw157_0 := hx157_0
          obtain rfl : ad154 = ad157 := (by injection e157)
          replace hx157_0 := cellUp HB.out hx157_0
          replace hx157_1 := cellUp HB.out hx157_1
          replace hx157_2 := cellUp HB.out hx157_2
          replace hx157_3 := cellUp HB.out hx157_3
          replace hx157_4 := cellUp HB.out hx157_4
          replace hx157_5 := cellUp HB.out hx157_5
          replace hx157_6 := cellUp HB.out hx157_6
          replace hx157_7 := cellUp HB.out hx157_7
          replace hx157_8 := cellUp HB.out hx157_8
          replace hx157_9 := cellUp HB.out hx157_9
          replace hx157_10 := cellUp HB.out hx157_10
          replace hx157_11 := cellUp HB.out hx157_11
          replace p157 := eq_true p157
          replace q157 := eq_true q157
          refine start_ (n := 25) (S := fun w' => w'.cell? (ad154.add ((x3_1).toNat * 12)) = some (.int .i64 ((rd_T30 l0 x3_1).f0.f0)) ∧ w'.cell? ⟨(ad154.add ((x3_1).toNat * 12)).block, (ad154.add ((x3_1).toNat * 12)).off + 1, none⟩ = some (.int .i64 ((rd_T30 l0 x3_1).f0.f1)) ∧ w'.cell? ⟨(ad154.add ((x3_1).toNat * 12)).block, (ad154.add ((x3_1).toNat * 12)).off + 2, none⟩ = some (.int .i64 ((rd_T30 l0 x3_1).f1)) ∧ w'.cell? ⟨(ad154.add ((x3_1).toNat * 12)).block, (ad154.add ((x3_1).toNat * 12)).off + 3, none⟩ = some (.int .i64 ((rd_T30 l0 x3_1).f2.f0)) ∧ w'.cell? ⟨(ad154.add ((x3_1).toNat * 12)).block, (ad154.add ((x3_1).toNat * 12)).off + 4, none⟩ = some (.int .i64 ((rd_T30 l0 x3_1).f2.f1)) ∧ w'.cell? ⟨(ad154.add ((x3_1).toNat * 12)).block, (ad154.add ((x3_1).toNat * 12)).off + 5, none⟩ = some (.int .i64 ((rd_T30 l0 x3_1).f3.f0)) ∧ w'.cell? ⟨(ad154.add ((x3_1).toNat * 12)).block, (ad154.add ((x3_1).toNat * 12)).off + 6, none⟩ = some (.int .i64 ((rd_T30 l0 x3_1).f3.f1)) ∧ w'.cell? ⟨(ad154.add ((x3_1).toNat * 12)).block, (ad154.add ((x3_1).toNat * 12)).off + 7, none⟩ = some (.int .i64 ((rd_T30 l0 x3_1).f4.f0)) ∧ w'.cell? ⟨(ad154.add ((x3_1).toNat * 12)).block, (ad154.add ((x3_1).toNat * 12)).off + 8, none⟩ = some (.int .i64 ((rd_T30 l0 x3_1).f4.f1)) ∧ w'.cell? ⟨(ad154.add ((x3_1).toNat * 12)).block, (ad154.add ((x3_1).toNat * 12)).off + 9, none⟩ = some (.int .i64 ((rd_T30 l0 x3_1).f5)) ∧ w'.cell? ⟨(ad154.add ((x3_1).toNat * 12)).block, (ad154.add ((x3_1).toNat * 12)).off + 10, none⟩ = some (.bool ((rd_T30 l0 x3_1).f6)) ∧ w'.cell? ⟨(ad154.add ((x3_1).toNat * 12)).block, (ad154.add ((x3_1).toNat * 12)).off + 11, none⟩ = some (.string ((rd_T30 l0 x3_1).f7)) ∧ w'.cell? (ad154.add (((ji7)).toNat * 12)) = some (.int .i64 ((rd_T30 l0 (ji7)).f0.f0)) ∧ w'.cell? ⟨(ad154.add (((ji7)).toNat * 12)).block, (ad154.add (((ji7)).toNat * 12)).off + 1, none⟩ = some (.int .i64 ((rd_T30 l0 (ji7)).f0.f1)) ∧ w'.cell? ⟨(ad154.add (((ji7)).toNat * 12)).block, (ad154.add (((ji7)).toNat * 12)).off + 2, none⟩ = some (.int .i64 ((rd_T30 l0 (ji7)).f1)) ∧ w'.cell? ⟨(ad154.add (((ji7)).toNat * 12)).block, (ad154.add (((ji7)).toNat * 12)).off + 3, none⟩ = some (.int .i64 ((rd_T30 l0 (ji7)).f2.f0)) ∧ w'.cell? ⟨(ad154.add (((ji7)).toNat * 12)).block, (ad154.add (((ji7)).toNat * 12)).off + 4, none⟩ = some (.int .i64 ((rd_T30 l0 (ji7)).f2.f1)) ∧ w'.cell? ⟨(ad154.add (((ji7)).toNat * 12)).block, (ad154.add (((ji7)).toNat * 12)).off + 5, none⟩ = some (.int .i64 ((rd_T30 l0 (ji7)).f3.f0)) ∧ w'.cell? ⟨(ad154.add (((ji7)).toNat * 12)).block, (ad154.add (((ji7)).toNat * 12)).off + 6, none⟩ = some (.int .i64 ((rd_T30 l0 (ji7)).f3.f1)) ∧ w'.cell? ⟨(ad154.add (((ji7)).toNat * 12)).block, (ad154.add (((ji7)).toNat * 12)).off + 7, none⟩ = some (.int .i64 ((rd_T30 l0 (ji7)).f4.f0)) ∧ w'.cell? ⟨(ad154.add (((ji7)).toNat * 12)).block, (ad154.add (((ji7)).toNat * 12)).off + 8, none⟩ = some (.int .i64 ((rd_T30 l0 (ji7)).f4.f1)) ∧ w'.cell? ⟨(ad154.add (((ji7)).toNat * 12)).block, (ad154.add (((ji7)).toNat * 12)).off + 9, none⟩ = some (.int .i64 ((rd_T30 l0 (ji7)).f5)) ∧ w'.cell? ⟨(ad154.add (((ji7)).toNat * 12)).block, (ad154.add (((ji7)).toNat * 12)).off + 10, none⟩ = some (.bool ((rd_T30 l0 (ji7)).f6)) ∧ w'.cell? ⟨(ad154.add (((ji7)).toNat * 12)).block, (ad154.add (((ji7)).toNat * 12)).off + 11, none⟩ = some (.string ((rd_T30 l0 (ji7)).f7)) ∧ w'.cell? (ad154.add ((x3_1).toNat * 12)) = some (.int .i64 ((rd_T30 l0 x3_1).f0.f0)) ∧ w'.cell? ⟨(ad154.add ((x3_1).toNat * 12)).block, (ad154.add ((x3_1).toNat * 12)).off + 1, none⟩ = some (.int .i64 ((rd_T30 l0 x3_1).f0.f1)) ∧ w'.cell? ⟨(ad154.add ((x3_1).toNat * 12)).block, (ad154.add ((x3_1).toNat * 12)).off + 2, none⟩ = some (.int .i64 ((rd_T30 l0 x3_1).f1)) ∧ w'.cell? ⟨(ad154.add ((x3_1).toNat * 12)).block, (ad154.add ((x3_1).toNat * 12)).off + 3, none⟩ = some (.int .i64 ((rd_T30 l0 x3_1).f2.f0)) ∧ w'.cell? ⟨(ad154.add ((x3_1).toNat * 12)).block, (ad154.add ((x3_1).toNat * 12)).off + 4, none⟩ = some (.int .i64 ((rd_T30 l0 x3_1).f2.f1)) ∧ w'.cell? ⟨(ad154.add ((x3_1).toNat * 12)).block, (ad154.add ((x3_1).toNat * 12)).off + 5, none⟩ = some (.int .i64 ((rd_T30 l0 x3_1).f3.f0)) ∧ w'.cell? ⟨(ad154.add ((x3_1).toNat * 12)).block, (ad154.add ((x3_1).toNat * 12)).off + 6, none⟩ = some (.int .i64 ((rd_T30 l0 x3_1).f3.f1)) ∧ w'.cell? ⟨(ad154.add ((x3_1).toNat * 12)).block, (ad154.add ((x3_1).toNat * 12)).off + 7, none⟩ = some (.int .i64 ((rd_T30 l0 x3_1).f4.f0)) ∧ w'.cell? ⟨(ad154.add ((x3_1).toNat * 12)).block, (ad154.add ((x3_1).toNat * 12)).off + 8, none⟩ = some (.int .i64 ((rd_T30 l0 x3_1).f4.f1)) ∧ w'.cell? ⟨(ad154.add ((x3_1).toNat * 12)).block, (ad154.add ((x3_1).toNat * 12)).off + 9, none⟩ = some (.int .i64 ((rd_T30 l0 x3_1).f5)) ∧ w'.cell? ⟨(ad154.add ((x3_1).toNat * 12)).block, (ad154.add ((x3_1).toNat * 12)).off + 10, none⟩ = some (.bool ((rd_T30 l0 x3_1).f6)) ∧ w'.cell? ⟨(ad154.add ((x3_1).toNat * 12)).block, (ad154.add ((x3_1).toNat * 12)).off + 11, none⟩ = some (.string ((rd_T30 l0 x3_1).f7))) (ds := []) qx13_0 (by kernel_rfl) rfl rfl ⟨((HB.out.cell (World.block_lt_of_cell? w _ hw154_0)).trans hw154_0), ((HB.out.cell (World.block_lt_of_cell? w _ hw154_1)).trans hw154_1), ((HB.out.cell (World.block_lt_of_cell? w _ hw154_2)).trans hw154_2), ((HB.out.cell (World.block_lt_of_cell? w _ hw154_3)).trans hw154_3), ((HB.out.cell (World.block_lt_of_cell? w _ hw154_4)).trans hw154_4), ((HB.out.cell (World.block_lt_of_cell? w _ hw154_5)).trans hw154_5), ((HB.out.cell (World.block_lt_of_cell? w _ hw154_6)).trans hw154_6), ((HB.out.cell (World.block_lt_of_cell? w _ hw154_7)).trans hw154_7), ((HB.out.cell (World.block_lt_of_cell? w _ hw154_8)).trans hw154_8), ((HB.out.cell (World.block_lt_of_cell? w _ hw154_9)).trans hw154_9), ((HB.out.cell (World.block_lt_of_cell? w _ hw154_10)).trans hw154_10), ((HB.out.cell (World.block_lt_of_cell? w _ hw154_11)).trans hw154_11), ((HB.out.cell (World.block_lt_of_cell? w _ hw156_0)).trans hw156_0), ((HB.out.cell (World.block_lt_of_cell? w _ hw156_1)).trans hw156_1), ((HB.out.cell (World.block_lt_of_cell? w _ hw156_2)).trans hw156_2), ((HB.out.cell (World.block_lt_of_cell? w _ hw156_3)).trans hw156_3), ((HB.out.cell (World.block_lt_of_cell? w _ hw156_4)).trans hw156_4), ((HB.out.cell (World.block_lt_of_cell? w _ hw156_5)).trans hw156_5), ((HB.out.cell (World.block_lt_of_cell? w _ hw156_6)).trans hw156_6), ((HB.out.cell (World.block_lt_of_cell? w _ hw156_7)).trans hw156_7), ((HB.out.cell (World.block_lt_of_cell? w _ hw156_8)).trans hw156_8), ((HB.out.cell (World.block_lt_of_cell? w _ hw156_9)).trans hw156_9), ((HB.out.cell (World.block_lt_of_cell? w _ hw156_10)).trans hw156_10), ((HB.out.cell (World.block_lt_of_cell? w _ hw156_11)).trans hw156_11), ((HB.out.cell (World.block_lt_of_cell? w _ hw157_0)).trans hw157_0), ((HB.out.cell (World.block_lt_of_cell? w _ hw157_1)).trans hw157_1), ((HB.out.cell (World.block_lt_of_cell? w _ hw157_2)).trans hw157_2), ((HB.out.cell (World.block_lt_of_cell? w _ hw157_3)).trans hw157_3), ((HB.out.cell (World.block_lt_of_cell? w _ hw157_4)).trans hw157_4), ((HB.out.cell (World.block_lt_of_cell? w _ hw157_5)).trans hw157_5), ((HB.out.cell (World.block_lt_of_cell? w _ hw157_6)).trans hw157_6), ((HB.out.cell (World.block_lt_of_cell? w _ hw157_7)).trans hw157_7), ((HB.out.cell (World.block_lt_of_cell? w _ hw157_8)).trans hw157_8), ((HB.out.cell (World.block_lt_of_cell? w _ hw157_9)).trans hw157_9), ((HB.out.cell (World.block_lt_of_cell? w _ hw157_10)).trans hw157_10), ((HB.out.cell (World.block_lt_of_cell? w _ hw157_11)).trans hw157_11)⟩ (fun hHeld => ?_); refine with_tabW spec_validLog.tab4 spec_validLog.bits4 (fun HT_ HW_ => ?_)
          generalize wr.drew = w15 at HB hx154_0 hx154_1 hx154_10 hx154_11 hx154_2 hx154_3 hx154_4 hx154_5 hx154_6 hx154_7 hx154_8 hx154_9 hx156_0 hx156_1 hx156_10 hx156_11 hx156_2 hx156_3 hx156_4 hx156_5 hx156_6 hx156_7 hx156_8 hx156_9 hx157_0 hx157_1 hx157_10 hx157_11 hx157_2 hx157_3 hx157_4 hx157_5 hx157_6 hx157_7 hx157_8 hx157_9 hHeld ⊢
          refine pure_ (i := 0) (N := some 10) (v := ?_) (a' := ?_) qx13_1 rfl rfl (any_of HT_.out (by kernel_rfl)) (fun _ _ _ h => h) (Or.inl ⟨by rfl, ?_⟩) ?_ ?_
          rotate_left
          ·intro w'
           go_simp
           with_reducible rfl
          rotate_left
          ·simp only [putS]
           rfl
          refine pure_ (i := 1) (N := some 11) (v := ?_) (a' := ?_) qx13_2 rfl rfl (any_of HT_.out (by kernel_rfl)) (fun _ _ _ h => h) (Or.inl ⟨by rfl, ?_⟩) ?_ ?_
          rotate_left
          ·intro w'
           go_simp
           with_reducible rfl
          rotate_left
          ·simp only [putS]
           rfl
          refine pure_ (i := 2) (N := some 12) (v := ?_) (a' := ?_) qx13_3 rfl rfl (any_of HT_.out (by kernel_rfl)) (fun _ _ _ h => h) (Or.inl ⟨by rfl, ?_⟩) ?_ ?_
          rotate_left
          ·intro w'
           go_simp
           with_reducible rfl
          rotate_left
          ·simp only [putS]
           rfl
          refine take_ (i := 3) (N := some 13) (v := ?_) (a' := ?_) qx13_4 rfl rfl (take_ofW HT_.out HW_.out (by kernel_rfl)) (fun _ _ _ h => h) (Or.inl ⟨by rfl, ?_⟩) hHeld ?_ ?_
          rotate_left
          ·rintro w' ⟨s0, s1, s2, s3, s4, s5, s6, s7, s8, s9, s10, s11, s12, s13, s14, s15, s16, s17, s18, s19, s20, s21, s22, s23, s24, s25, s26, s27, s28, s29, s30, s31, s32, s33, s34, s35⟩
           go_simp
           with_reducible rfl
          rotate_left
          ·simp only [putS]
           rfl
          refine one_ (i := 4) (N := some 14) qx13_5 rfl rfl (one_of HT_.out (by kernel_rfl)) (by decide) (fun K hK => ?_)
          refine goes_ Try.func41 (by kernel_rfl) rfl #[.agg #[.int .i64 ((rd_T30 l0 x3_1).f0.f0), .int .i64 ((rd_T30 l0 x3_1).f0.f1), .int .i64 ((rd_T30 l0 x3_1).f1), .int .i64 ((rd_T30 l0 x3_1).f2.f0), .int .i64 ((rd_T30 l0 x3_1).f2.f1), .int .i64 ((rd_T30 l0 x3_1).f3.f0), .int .i64 ((rd_T30 l0 x3_1).f3.f1), .int .i64 ((rd_T30 l0 x3_1).f4.f0), .int .i64 ((rd_T30 l0 x3_1).f4.f1), .int .i64 ((rd_T30 l0 x3_1).f5), .bool ((rd_T30 l0 x3_1).f6), .string ((rd_T30 l0 x3_1).f7)]] (by rfl) rfl rfl (by (try simp only [List.map_toArray, List.map_cons, List.map_nil]); first | done | rfl | (simp only [List.length_drop, List.length_take]; rfl)) ?_
          with_reducible refine (spec_validOp.calls ((rd_T30 l0 x3_1).f0.f0) ((rd_T30 l0 x3_1).f0.f1) ((rd_T30 l0 x3_1).f1) ((rd_T30 l0 x3_1).f2.f0) ((rd_T30 l0 x3_1).f2.f1) ((rd_T30 l0 x3_1).f3.f0) ((rd_T30 l0 x3_1).f3.f1) ((rd_T30 l0 x3_1).f4.f0) ((rd_T30 l0 x3_1).f4.f1) ((rd_T30 l0 x3_1).f5) ((rd_T30 l0 x3_1).f6) ((rd_T30 l0 x3_1).f7) true _ A4.out).mono ?_
          rintro e w16 ⟨rfl, hb⟩
          refine ⟨_, rfl, ?_⟩
          have n0_ := am (below_step (by repeat (first | (with_reducible first | exact HB.out | apply below_alloc | apply pw_below_drewN | apply below_drew1) | exact HB.out)) hb)
          clear HB
          have HB := n0_
          clear n0_
          (try clear hb)
          (try clear hb2)
          (try clear hk)
          (try clear hi)
          refine hK.out _ _ ⟨((HB.out.cell (World.block_lt_of_cell? w _ hw154_0)).trans hw154_0), ((HB.out.cell (World.block_lt_of_cell? w _ hw154_1)).trans hw154_1), ((HB.out.cell (World.block_lt_of_cell? w _ hw154_2)).trans hw154_2), ((HB.out.cell (World.block_lt_of_cell? w _ hw154_3)).trans hw154_3), ((HB.out.cell (World.block_lt_of_cell? w _ hw154_4)).trans hw154_4), ((HB.out.cell (World.block_lt_of_cell? w _ hw154_5)).trans hw154_5), ((HB.out.cell (World.block_lt_of_cell? w _ hw154_6)).trans hw154_6), ((HB.out.cell (World.block_lt_of_cell? w _ hw154_7)).trans hw154_7), ((HB.out.cell (World.block_lt_of_cell? w _ hw154_8)).trans hw154_8), ((HB.out.cell (World.block_lt_of_cell? w _ hw154_9)).trans hw154_9), ((HB.out.cell (World.block_lt_of_cell? w _ hw154_10)).trans hw154_10), ((HB.out.cell (World.block_lt_of_cell? w _ hw154_11)).trans hw154_11), ((HB.out.cell (World.block_lt_of_cell? w _ hw156_0)).trans hw156_0), ((HB.out.cell (World.block_lt_of_cell? w _ hw156_1)).trans hw156_1), ((HB.out.cell (World.block_lt_of_cell? w _ hw156_2)).trans hw156_2), ((HB.out.cell (World.block_lt_of_cell? w _ hw156_3)).trans hw156_3), ((HB.out.cell (World.block_lt_of_cell? w _ hw156_4)).trans hw156_4), ((HB.out.cell (World.block_lt_of_cell? w _ hw156_5)).trans hw156_5), ((HB.out.cell (World.block_lt_of_cell? w _ hw156_6)).trans hw156_6), ((HB.out.cell (World.block_lt_of_cell? w _ hw156_7)).trans hw156_7), ((HB.out.cell (World.block_lt_of_cell? w _ hw156_8)).trans hw156_8), ((HB.out.cell (World.block_lt_of_cell? w _ hw156_9)).trans hw156_9), ((HB.out.cell (World.block_lt_of_cell? w _ hw156_10)).trans hw156_10), ((HB.out.cell (World.block_lt_of_cell? w _ hw156_11)).trans hw156_11), ((HB.out.cell (World.block_lt_of_cell? w _ hw157_0)).trans hw157_0), ((HB.out.cell (World.block_lt_of_cell? w _ hw157_1)).trans hw157_1), ((HB.out.cell (World.block_lt_of_cell? w _ hw157_2)).trans hw157_2), ((HB.out.cell (World.block_lt_of_cell? w _ hw157_3)).trans hw157_3), ((HB.out.cell (World.block_lt_of_cell? w _ hw157_4)).trans hw157_4), ((HB.out.cell (World.block_lt_of_cell? w _ hw157_5)).trans hw157_5), ((HB.out.cell (World.block_lt_of_cell? w _ hw157_6)).trans hw157_6), ((HB.out.cell (World.block_lt_of_cell? w _ hw157_7)).trans hw157_7), ((HB.out.cell (World.block_lt_of_cell? w _ hw157_8)).trans hw157_8), ((HB.out.cell (World.block_lt_of_cell? w _ hw157_9)).trans hw157_9), ((HB.out.cell (World.block_lt_of_cell? w _ hw157_10)).trans hw157_10), ((HB.out.cell (World.block_lt_of_cell? w _ hw157_11)).trans hw157_11)⟩ (fun hHeld => ?_)
          clear hK K
          refine norm_ (a' := ?_) ?_ ?_
          rotate_left
          ·show Act.put _ (some 14) _ = _
           simp only [putS]
           rfl
          refine pure_ (i := 5) (N := some 15) (v := ?_) (a' := ?_) qx13_6 rfl rfl (any_of HT_.out (by kernel_rfl)) (fun _ _ _ h => h) (Or.inl ⟨by rfl, ?_⟩) ?_ ?_
          rotate_left
          ·intro w'
           go_simp
           with_reducible rfl
          rotate_left
          ·simp only [putS]
           rfl
          refine pure_ (i := 6) (N := some 16) (v := ?_) (a' := ?_) qx13_7 rfl rfl (any_of HT_.out (by kernel_rfl)) (fun _ _ _ h => h) (Or.inl ⟨by rfl, ?_⟩) ?_ ?_
          rotate_left
          ·intro w'
           go_simp
           with_reducible rfl
          rotate_left
          ·simp only [putS]
           rfl
          refine pure_ (i := 7) (N := some 17) (v := ?_) (a' := ?_) qx13_8 rfl rfl (any_of HT_.out (by kernel_rfl)) (fun _ _ _ h => h) (Or.inl ⟨by rfl, ?_⟩) ?_ ?_
          rotate_left
          ·intro w'
           go_simp
           with_reducible rfl
          rotate_left
          ·simp only [putS]
           rfl
          refine pure_ (i := 8) (N := some 18) (v := ?_) (a' := ?_) qx13_9 rfl rfl (any_of HT_.out (by kernel_rfl)) (fun _ _ _ h => h) (Or.inl ⟨by rfl, ?_⟩) ?_ ?_
          rotate_left
          ·intro w'
           go_simp
           with_reducible rfl
          rotate_left
          ·simp only [putS]
           rfl
          refine pure_ (i := 9) (N := some 19) (v := ?_) (a' := ?_) qx13_10 rfl rfl (any_of HT_.out (by kernel_rfl)) (fun _ _ _ h => h) (Or.inl ⟨by rfl, ?_⟩) ?_ ?_
          rotate_left
          ·intro w'
           go_simp
           with_reducible rfl
          rotate_left
          ·simp only [putS]
           rfl
          refine pure_ (i := 10) (N := some 20) (v := ?_) (a' := ?_) qx13_11 rfl rfl (any_of HT_.out (by kernel_rfl)) (fun _ _ _ h => h) (Or.inl ⟨by rfl, ?_⟩) ?_ ?_
          rotate_left
          ·intro w'
           go_simp
           with_reducible rfl
          rotate_left
          ·simp only [putS]
           rfl
          refine pure_ (i := 11) (N := some 21) (v := ?_) (a' := ?_) qx13_12 rfl rfl (any_of HT_.out (by kernel_rfl)) (fun _ _ _ h => h) (Or.inl ⟨by rfl, ?_⟩) ?_ ?_
          rotate_left
          ·intro w'
           go_simp
           with_reducible rfl
          rotate_left
          ·simp only [putS]
           rfl
          refine pure_ (i := 12) (N := some 22) (v := ?_) (a' := ?_) qx13_13 rfl rfl (any_of HT_.out (by kernel_rfl)) (fun _ _ _ h => h) (Or.inl ⟨by rfl, ?_⟩) ?_ ?_
          rotate_left
          ·intro w'
           go_simp
           with_reducible rfl
          rotate_left
          ·simp only [putS]
           rfl
          refine pure_ (i := 13) (N := some 23) (v := ?_) (a' := ?_) qx13_14 rfl rfl (any_of HT_.out (by kernel_rfl)) (fun _ _ _ h => h) (Or.inl ⟨by rfl, ?_⟩) ?_ ?_
          rotate_left
          ·intro w'
           go_simp
           with_reducible rfl
          rotate_left
          ·simp only [putS]
           rfl
          refine pure_ (i := 14) (N := some 24) (v := ?_) (a' := ?_) qx13_15 rfl rfl (any_of HT_.out (by kernel_rfl)) (fun _ _ _ h => h) (Or.inl ⟨by rfl, ?_⟩) ?_ ?_
          rotate_left
          ·intro w'
           go_simp
           with_reducible rfl
          rotate_left
          ·simp only [putS]
           rfl
          refine pure_ (i := 16) (N := some 26) (v := ?_) (a' := ?_) qx13_22 rfl rfl (any_of HT_.out (by kernel_rfl)) (fun _ _ _ h => h) (Or.inl ⟨by rfl, ?_⟩) ?_ ?_
          rotate_left
          ·intro w'
           go_simp
           with_reducible rfl
          rotate_left
          ·simp only [putS]
           rfl
          refine pure_ (i := 17) (N := some 27) (v := ?_) (a' := ?_) qx13_23 rfl rfl (any_of HT_.out (by kernel_rfl)) (fun _ _ _ h => h) (Or.inl ⟨by rfl, ?_⟩) ?_ ?_
          rotate_left
          ·intro w'
           go_simp
           with_reducible rfl
          rotate_left
          ·simp only [putS]
           rfl
          refine pure_ (i := 18) (N := some 28) (v := ?_) (a' := ?_) qx13_24 rfl rfl (any_of HT_.out (by kernel_rfl)) (fun _ _ _ h => h) (Or.inl ⟨by rfl, ?_⟩) ?_ ?_
          rotate_left
          ·intro w'
           go_simp
           with_reducible rfl
          rotate_left
          ·simp only [putS]
           rfl
          refine pure_ (i := 19) (N := some 29) (v := ?_) (a' := ?_) qx13_25 rfl rfl (any_of HT_.out (by kernel_rfl)) (fun _ _ _ h => h) (Or.inl ⟨by rfl, ?_⟩) ?_ ?_
          rotate_left
          ·intro w'
           go_simp
           with_reducible rfl
          rotate_left
          ·simp only [putS]
           rfl
          refine take_ (i := 15) (N := some 25) (v := ?_) (a' := ?_) qx13_16 rfl rfl (take_ofW HT_.out HW_.out (by kernel_rfl)) (fun _ _ _ h => h) (Or.inl ⟨by rfl, ?_⟩) hHeld ?_ ?_
          rotate_left
          ·rintro w' ⟨s0, s1, s2, s3, s4, s5, s6, s7, s8, s9, s10, s11, s12, s13, s14, s15, s16, s17, s18, s19, s20, s21, s22, s23, s24, s25, s26, s27, s28, s29, s30, s31, s32, s33, s34, s35⟩
           go_simp
           with_reducible rfl
          rotate_left
          ·simp only [putS]
           rfl
          refine take_ (i := 20) (N := some 30) (v := ?_) (a' := ?_) qx13_17 rfl rfl (take_ofW HT_.out HW_.out (by kernel_rfl)) (fun _ _ _ h => h) (Or.inl ⟨by rfl, ?_⟩) hHeld ?_ ?_
          rotate_left
          ·rintro w' ⟨s0, s1, s2, s3, s4, s5, s6, s7, s8, s9, s10, s11, s12, s13, s14, s15, s16, s17, s18, s19, s20, s21, s22, s23, s24, s25, s26, s27, s28, s29, s30, s31, s32, s33, s34, s35⟩
           go_simp
           with_reducible rfl
          rotate_left
          ·simp only [putS]
           rfl
          refine one_ (i := 21) (N := some 31) qx13_18 rfl rfl (one_of HT_.out (by kernel_rfl)) (by decide) (fun K hK => ?_)
          refine goes_ Try.func67 (by kernel_rfl) rfl #[.agg #[.int .i64 ((rd_T30 l0 (ji7)).f0.f0), .int .i64 ((rd_T30 l0 (ji7)).f0.f1)], .agg #[.int .i64 ((rd_T30 l0 x3_1).f0.f0), .int .i64 ((rd_T30 l0 x3_1).f0.f1)]] (by rfl) rfl rfl (by (try simp only [List.map_toArray, List.map_cons, List.map_nil]); first | done | (simp only [hji7]; rfl) | rfl | (simp only [List.length_drop, List.length_take]; rfl)) ?_
          with_reducible refine (spec_stampLess.calls ((rd_T30 l0 (ji7)).f0.f0) ((rd_T30 l0 (ji7)).f0.f1) ((rd_T30 l0 x3_1).f0.f0) ((rd_T30 l0 x3_1).f0.f1) false _ A10.out).mono ?_
          rintro e w17 ⟨rfl, hb⟩
          refine ⟨_, rfl, ?_⟩
          have n0_ := am (below_step (by repeat (first | (with_reducible first | exact HB.out | apply below_alloc | apply pw_below_drewN | apply below_drew1) | exact HB.out)) hb)
          clear HB
          have HB := n0_
          clear n0_
          (try clear hb)
          (try clear hb2)
          (try clear hk)
          (try clear hi)
          refine hK.out _ _ ⟨((HB.out.cell (World.block_lt_of_cell? w _ hw154_0)).trans hw154_0), ((HB.out.cell (World.block_lt_of_cell? w _ hw154_1)).trans hw154_1), ((HB.out.cell (World.block_lt_of_cell? w _ hw154_2)).trans hw154_2), ((HB.out.cell (World.block_lt_of_cell? w _ hw154_3)).trans hw154_3), ((HB.out.cell (World.block_lt_of_cell? w _ hw154_4)).trans hw154_4), ((HB.out.cell (World.block_lt_of_cell? w _ hw154_5)).trans hw154_5), ((HB.out.cell (World.block_lt_of_cell? w _ hw154_6)).trans hw154_6), ((HB.out.cell (World.block_lt_of_cell? w _ hw154_7)).trans hw154_7), ((HB.out.cell (World.block_lt_of_cell? w _ hw154_8)).trans hw154_8), ((HB.out.cell (World.block_lt_of_cell? w _ hw154_9)).trans hw154_9), ((HB.out.cell (World.block_lt_of_cell? w _ hw154_10)).trans hw154_10), ((HB.out.cell (World.block_lt_of_cell? w _ hw154_11)).trans hw154_11), ((HB.out.cell (World.block_lt_of_cell? w _ hw156_0)).trans hw156_0), ((HB.out.cell (World.block_lt_of_cell? w _ hw156_1)).trans hw156_1), ((HB.out.cell (World.block_lt_of_cell? w _ hw156_2)).trans hw156_2), ((HB.out.cell (World.block_lt_of_cell? w _ hw156_3)).trans hw156_3), ((HB.out.cell (World.block_lt_of_cell? w _ hw156_4)).trans hw156_4), ((HB.out.cell (World.block_lt_of_cell? w _ hw156_5)).trans hw156_5), ((HB.out.cell (World.block_lt_of_cell? w _ hw156_6)).trans hw156_6), ((HB.out.cell (World.block_lt_of_cell? w _ hw156_7)).trans hw156_7), ((HB.out.cell (World.block_lt_of_cell? w _ hw156_8)).trans hw156_8), ((HB.out.cell (World.block_lt_of_cell? w _ hw156_9)).trans hw156_9), ((HB.out.cell (World.block_lt_of_cell? w _ hw156_10)).trans hw156_10), ((HB.out.cell (World.block_lt_of_cell? w _ hw156_11)).trans hw156_11), ((HB.out.cell (World.block_lt_of_cell? w _ hw157_0)).trans hw157_0), ((HB.out.cell (World.block_lt_of_cell? w _ hw157_1)).trans hw157_1), ((HB.out.cell (World.block_lt_of_cell? w _ hw157_2)).trans hw157_2), ((HB.out.cell (World.block_lt_of_cell? w _ hw157_3)).trans hw157_3), ((HB.out.cell (World.block_lt_of_cell? w _ hw157_4)).trans hw157_4), ((HB.out.cell (World.block_lt_of_cell? w _ hw157_5)).trans hw157_5), ((HB.out.cell (World.block_lt_of_cell? w _ hw157_6)).trans hw157_6), ((HB.out.cell (World.block_lt_of_cell? w _ hw157_7)).trans hw157_7), ((HB.out.cell (World.block_lt_of_cell? w _ hw157_8)).trans hw157_8), ((HB.out.cell (World.block_lt_of_cell? w _ hw157_9)).trans hw157_9), ((HB.out.cell (World.block_lt_of_cell? w _ hw157_10)).trans hw157_10), ((HB.out.cell (World.block_lt_of_cell? w _ hw157_11)).trans hw157_11)⟩ (fun hHeld => ?_)
          clear hK K
          refine norm_ (a' := ?_) ?_ ?_
          rotate_left
          ·show Act.put _ (some 31) _ = _
           simp only [putS]
           rfl
          refine pure_ (i := 22) (N := some 32) (v := ?_) (a' := ?_) qx13_19 rfl rfl (any_of HT_.out (by kernel_rfl)) (fun _ _ _ h => h) (Or.inl ⟨by rfl, ?_⟩) ?_ ?_
          rotate_left
          ·intro w'
           go_simp
           with_reducible rfl
          rotate_left
          ·simp only [putS]
           rfl
          refine pure_ (i := 23) (N := some 33) (v := ?_) (a' := ?_) qx13_20 rfl rfl (any_of HT_.out (by kernel_rfl)) (fun _ _ _ h => h) (Or.inl ⟨by rfl, ?_⟩) ?_ ?_
          rotate_left
          ·intro w'
           go_simp
           with_reducible rfl
          rotate_left
          ·simp only [putS]
           rfl
          refine pure_ (i := 24) (N := some 34) (v := ?_) (a' := ?_) qx13_21 rfl rfl (any_of HT_.out (by kernel_rfl)) (fun _ _ _ h => h) (Or.inl ⟨by rfl, ?_⟩) ?_ ?_
          rotate_left
          ·intro w'
           go_simp
           with_reducible rfl
          rotate_left
          ·simp only [putS]
           rfl
          refine done_ (done_of HT_.out (by kernel_rfl)) ?_
          try go_wp2
          go_ret
          exact ⟨by first | rfl | (simp [errW_none, errW_some] <;> rfl) | (simp only [← hji7]; first | rfl | (simp [errW_none, errW_some] <;> rfl)) | (simp [*, errW_none, errW_some] <;> rfl), by repeat (first | (with_reducible first | exact HB.out | apply below_alloc | apply pw_below_drewN | apply below_drew1) | exact HB.out)⟩
        ·rw [if_neg c9] at H
         exact absurd H (by simp)
       ·rw [if_neg c8] at H
        exact absurd H (by simp)
      ·rw [if_neg c6] at H
       have c6b0 : decide (0 < x3_1) = false := decide_eq_false c6
       clear c6
       have H' := am H
       clear H
       try go_wp2
       have n0_ := am (below_drew1 HB.out)
       clear HB
       have HB := n0_
       clear n0_
       have p154 : 0 ≤ (x3_1 : Int) := of_decide_eq_true (by first | (with_reducible assumption) | assumption)
       have q154 : x3_1 < (l0.length : Int) := of_decide_eq_true (by first | (with_reducible assumption) | assumption)
       obtain ⟨ad154, e154, hx154_0, hx154_1, hx154_2, hx154_3, hx154_4, hx154_5, hx154_6, hx154_7, hx154_8, hx154_9, hx154_10, hx154_11⟩ := at_T30 HR0.out x3_1 p154 q154
       have hw154_11 := hx154_11
       have hw154_10 := hx154_10
       have hw154_9 := hx154_9
       have hw154_8 := hx154_8
       have hw154_7 := hx154_7
       have hw154_6 := hx154_6
       have hw154_5 := hx154_5
       have hw154_4 := hx154_4
       have hw154_3 := hx154_3
       have hw154_2 := hx154_2
       have hw154_1 := hx154_1
       have hw154_0 := hx154_0
       cases e154
       replace hx154_0 := cellUp HB.out hx154_0
       replace hx154_1 := cellUp HB.out hx154_1
       replace hx154_2 := cellUp HB.out hx154_2
       replace hx154_3 := cellUp HB.out hx154_3
       replace hx154_4 := cellUp HB.out hx154_4
       replace hx154_5 := cellUp HB.out hx154_5
       replace hx154_6 := cellUp HB.out hx154_6
       replace hx154_7 := cellUp HB.out hx154_7
       replace hx154_8 := cellUp HB.out hx154_8
       replace hx154_9 := cellUp HB.out hx154_9
       replace hx154_10 := cellUp HB.out hx154_10
       replace hx154_11 := cellUp HB.out hx154_11
       replace p154 := eq_true p154
       replace q154 := eq_true q154
       refine start_ (n := 25) (S := fun w' => w'.cell? (ad154.add ((x3_1).toNat * 12)) = some (.int .i64 ((rd_T30 l0 x3_1).f0.f0)) ∧ w'.cell? ⟨(ad154.add ((x3_1).toNat * 12)).block, (ad154.add ((x3_1).toNat * 12)).off + 1, none⟩ = some (.int .i64 ((rd_T30 l0 x3_1).f0.f1)) ∧ w'.cell? ⟨(ad154.add ((x3_1).toNat * 12)).block, (ad154.add ((x3_1).toNat * 12)).off + 2, none⟩ = some (.int .i64 ((rd_T30 l0 x3_1).f1)) ∧ w'.cell? ⟨(ad154.add ((x3_1).toNat * 12)).block, (ad154.add ((x3_1).toNat * 12)).off + 3, none⟩ = some (.int .i64 ((rd_T30 l0 x3_1).f2.f0)) ∧ w'.cell? ⟨(ad154.add ((x3_1).toNat * 12)).block, (ad154.add ((x3_1).toNat * 12)).off + 4, none⟩ = some (.int .i64 ((rd_T30 l0 x3_1).f2.f1)) ∧ w'.cell? ⟨(ad154.add ((x3_1).toNat * 12)).block, (ad154.add ((x3_1).toNat * 12)).off + 5, none⟩ = some (.int .i64 ((rd_T30 l0 x3_1).f3.f0)) ∧ w'.cell? ⟨(ad154.add ((x3_1).toNat * 12)).block, (ad154.add ((x3_1).toNat * 12)).off + 6, none⟩ = some (.int .i64 ((rd_T30 l0 x3_1).f3.f1)) ∧ w'.cell? ⟨(ad154.add ((x3_1).toNat * 12)).block, (ad154.add ((x3_1).toNat * 12)).off + 7, none⟩ = some (.int .i64 ((rd_T30 l0 x3_1).f4.f0)) ∧ w'.cell? ⟨(ad154.add ((x3_1).toNat * 12)).block, (ad154.add ((x3_1).toNat * 12)).off + 8, none⟩ = some (.int .i64 ((rd_T30 l0 x3_1).f4.f1)) ∧ w'.cell? ⟨(ad154.add ((x3_1).toNat * 12)).block, (ad154.add ((x3_1).toNat * 12)).off + 9, none⟩ = some (.int .i64 ((rd_T30 l0 x3_1).f5)) ∧ w'.cell? ⟨(ad154.add ((x3_1).toNat * 12)).block, (ad154.add ((x3_1).toNat * 12)).off + 10, none⟩ = some (.bool ((rd_T30 l0 x3_1).f6)) ∧ w'.cell? ⟨(ad154.add ((x3_1).toNat * 12)).block, (ad154.add ((x3_1).toNat * 12)).off + 11, none⟩ = some (.string ((rd_T30 l0 x3_1).f7))) (ds := []) qx13_0 (by kernel_rfl) rfl rfl ⟨((HB.out.cell (World.block_lt_of_cell? w _ hw154_0)).trans hw154_0), ((HB.out.cell (World.block_lt_of_cell? w _ hw154_1)).trans hw154_1), ((HB.out.cell (World.block_lt_of_cell? w _ hw154_2)).trans hw154_2), ((HB.out.cell (World.block_lt_of_cell? w _ hw154_3)).trans hw154_3), ((HB.out.cell (World.block_lt_of_cell? w _ hw154_4)).trans hw154_4), ((HB.out.cell (World.block_lt_of_cell? w _ hw154_5)).trans hw154_5), ((HB.out.cell (World.block_lt_of_cell? w _ hw154_6)).trans hw154_6), ((HB.out.cell (World.block_lt_of_cell? w _ hw154_7)).trans hw154_7), ((HB.out.cell (World.block_lt_of_cell? w _ hw154_8)).trans hw154_8), ((HB.out.cell (World.block_lt_of_cell? w _ hw154_9)).trans hw154_9), ((HB.out.cell (World.block_lt_of_cell? w _ hw154_10)).trans hw154_10), ((HB.out.cell (World.block_lt_of_cell? w _ hw154_11)).trans hw154_11)⟩ (fun hHeld => ?_); refine with_tabW spec_validLog.tab4 spec_validLog.bits4 (fun HT_ HW_ => ?_)
       generalize wr.drew = w18 at HB hx154_0 hx154_1 hx154_10 hx154_11 hx154_2 hx154_3 hx154_4 hx154_5 hx154_6 hx154_7 hx154_8 hx154_9 hHeld ⊢
       refine pure_ (i := 0) (N := some 10) (v := ?_) (a' := ?_) qx13_1 rfl rfl (any_of HT_.out (by kernel_rfl)) (fun _ _ _ h => h) (Or.inl ⟨by rfl, ?_⟩) ?_ ?_
       rotate_left
       ·intro w'
        go_simp
        with_reducible rfl
       rotate_left
       ·simp only [putS]
        rfl
       refine pure_ (i := 1) (N := some 11) (v := ?_) (a' := ?_) qx13_2 rfl rfl (any_of HT_.out (by kernel_rfl)) (fun _ _ _ h => h) (Or.inl ⟨by rfl, ?_⟩) ?_ ?_
       rotate_left
       ·intro w'
        go_simp
        with_reducible rfl
       rotate_left
       ·simp only [putS]
        rfl
       refine pure_ (i := 2) (N := some 12) (v := ?_) (a' := ?_) qx13_3 rfl rfl (any_of HT_.out (by kernel_rfl)) (fun _ _ _ h => h) (Or.inl ⟨by rfl, ?_⟩) ?_ ?_
       rotate_left
       ·intro w'
        go_simp
        with_reducible rfl
       rotate_left
       ·simp only [putS]
        rfl
       refine take_ (i := 3) (N := some 13) (v := ?_) (a' := ?_) qx13_4 rfl rfl (take_ofW HT_.out HW_.out (by kernel_rfl)) (fun _ _ _ h => h) (Or.inl ⟨by rfl, ?_⟩) hHeld ?_ ?_
       rotate_left
       ·rintro w' ⟨s0, s1, s2, s3, s4, s5, s6, s7, s8, s9, s10, s11⟩
        go_simp
        with_reducible rfl
       rotate_left
       ·simp only [putS]
        rfl
       refine one_ (i := 4) (N := some 14) qx13_5 rfl rfl (one_of HT_.out (by kernel_rfl)) (by decide) (fun K hK => ?_)
       refine goes_ Try.func41 (by kernel_rfl) rfl #[.agg #[.int .i64 ((rd_T30 l0 x3_1).f0.f0), .int .i64 ((rd_T30 l0 x3_1).f0.f1), .int .i64 ((rd_T30 l0 x3_1).f1), .int .i64 ((rd_T30 l0 x3_1).f2.f0), .int .i64 ((rd_T30 l0 x3_1).f2.f1), .int .i64 ((rd_T30 l0 x3_1).f3.f0), .int .i64 ((rd_T30 l0 x3_1).f3.f1), .int .i64 ((rd_T30 l0 x3_1).f4.f0), .int .i64 ((rd_T30 l0 x3_1).f4.f1), .int .i64 ((rd_T30 l0 x3_1).f5), .bool ((rd_T30 l0 x3_1).f6), .string ((rd_T30 l0 x3_1).f7)]] (by rfl) rfl rfl (by (try simp only [List.map_toArray, List.map_cons, List.map_nil]); first | done | rfl | (simp only [List.length_drop, List.length_take]; rfl)) ?_
       with_reducible refine (spec_validOp.calls ((rd_T30 l0 x3_1).f0.f0) ((rd_T30 l0 x3_1).f0.f1) ((rd_T30 l0 x3_1).f1) ((rd_T30 l0 x3_1).f2.f0) ((rd_T30 l0 x3_1).f2.f1) ((rd_T30 l0 x3_1).f3.f0) ((rd_T30 l0 x3_1).f3.f1) ((rd_T30 l0 x3_1).f4.f0) ((rd_T30 l0 x3_1).f4.f1) ((rd_T30 l0 x3_1).f5) ((rd_T30 l0 x3_1).f6) ((rd_T30 l0 x3_1).f7) true _ A4.out).mono ?_
       rintro e w19 ⟨rfl, hb⟩
       refine ⟨_, rfl, ?_⟩
       have n0_ := am (below_step (by repeat (first | (with_reducible first | exact HB.out | apply below_alloc | apply pw_below_drewN | apply below_drew1) | exact HB.out)) hb)
       clear HB
       have HB := n0_
       clear n0_
       (try clear hb)
       (try clear hb2)
       (try clear hk)
       (try clear hi)
       refine hK.out _ _ ⟨((HB.out.cell (World.block_lt_of_cell? w _ hw154_0)).trans hw154_0), ((HB.out.cell (World.block_lt_of_cell? w _ hw154_1)).trans hw154_1), ((HB.out.cell (World.block_lt_of_cell? w _ hw154_2)).trans hw154_2), ((HB.out.cell (World.block_lt_of_cell? w _ hw154_3)).trans hw154_3), ((HB.out.cell (World.block_lt_of_cell? w _ hw154_4)).trans hw154_4), ((HB.out.cell (World.block_lt_of_cell? w _ hw154_5)).trans hw154_5), ((HB.out.cell (World.block_lt_of_cell? w _ hw154_6)).trans hw154_6), ((HB.out.cell (World.block_lt_of_cell? w _ hw154_7)).trans hw154_7), ((HB.out.cell (World.block_lt_of_cell? w _ hw154_8)).trans hw154_8), ((HB.out.cell (World.block_lt_of_cell? w _ hw154_9)).trans hw154_9), ((HB.out.cell (World.block_lt_of_cell? w _ hw154_10)).trans hw154_10), ((HB.out.cell (World.block_lt_of_cell? w _ hw154_11)).trans hw154_11)⟩ (fun hHeld => ?_)
       clear hK K
       refine norm_ (a' := ?_) ?_ ?_
       rotate_left
       ·show Act.put _ (some 14) _ = _
        simp only [putS]
        rfl
       refine pure_ (i := 5) (N := some 15) (v := ?_) (a' := ?_) qx13_6 rfl rfl (any_of HT_.out (by kernel_rfl)) (fun _ _ _ h => h) (Or.inl ⟨by rfl, ?_⟩) ?_ ?_
       rotate_left
       ·intro w'
        go_simp
        with_reducible rfl
       rotate_left
       ·simp only [putS]
        rfl
       refine pure_ (i := 6) (N := some 16) (v := ?_) (a' := ?_) qx13_7 rfl rfl (any_of HT_.out (by kernel_rfl)) (fun _ _ _ h => h) (Or.inl ⟨by rfl, ?_⟩) ?_ ?_
       rotate_left
       ·intro w'
        go_simp
        with_reducible rfl
       rotate_left
       ·simp only [putS]
        rfl
       refine pure_ (i := 7) (N := some 17) (v := ?_) (a' := ?_) qx13_8 rfl rfl (any_of HT_.out (by kernel_rfl)) (fun _ _ _ h => h) (Or.inl ⟨by rfl, ?_⟩) ?_ ?_
       rotate_left
       ·intro w'
        go_simp
        with_reducible rfl
       rotate_left
       ·simp only [putS]
        rfl
       refine pure_ (i := 8) (N := some 18) (v := ?_) (a' := ?_) qx13_9 rfl rfl (any_of HT_.out (by kernel_rfl)) (fun _ _ _ h => h) (Or.inl ⟨by rfl, ?_⟩) ?_ ?_
       rotate_left
       ·intro w'
        go_simp
        with_reducible rfl
       rotate_left
       ·simp only [putS]
        rfl
       refine pure_ (i := 9) (N := some 19) (v := ?_) (a' := ?_) qx13_10 rfl rfl (any_of HT_.out (by kernel_rfl)) (fun _ _ _ h => h) (Or.inl ⟨by rfl, ?_⟩) ?_ ?_
       rotate_left
       ·intro w'
        go_simp
        with_reducible rfl
       rotate_left
       ·simp only [putS]
        rfl
       refine pure_ (i := 10) (N := some 20) (v := undef) (a' := ?_) qx13_11 rfl rfl (any_of HT_.out (by kernel_rfl)) (fun _ _ _ h => h) (Or.inr ⟨by rfl, rfl⟩) ?_ ?_
       rotate_left
       ·simp only [putS]
        rfl
       refine pure_ (i := 11) (N := some 21) (v := undef) (a' := ?_) qx13_12 rfl rfl (any_of HT_.out (by kernel_rfl)) (fun _ _ _ h => h) (Or.inr ⟨by rfl, rfl⟩) ?_ ?_
       rotate_left
       ·simp only [putS]
        rfl
       refine pure_ (i := 12) (N := some 22) (v := undef) (a' := ?_) qx13_13 rfl rfl (any_of HT_.out (by kernel_rfl)) (fun _ _ _ h => h) (Or.inr ⟨by rfl, rfl⟩) ?_ ?_
       rotate_left
       ·simp only [putS]
        rfl
       refine pure_ (i := 13) (N := some 23) (v := undef) (a' := ?_) qx13_14 rfl rfl (any_of HT_.out (by kernel_rfl)) (fun _ _ _ h => h) (Or.inr ⟨by rfl, rfl⟩) ?_ ?_
       rotate_left
       ·simp only [putS]
        rfl
       refine pure_ (i := 14) (N := some 24) (v := undef) (a' := ?_) qx13_15 rfl rfl (any_of HT_.out (by kernel_rfl)) (fun _ _ _ h => h) (Or.inr ⟨by rfl, rfl⟩) ?_ ?_
       rotate_left
       ·simp only [putS]
        rfl
       refine pure_ (i := 15) (N := some 25) (v := undef) (a' := ?_) qx13_26 rfl rfl (any_of HT_.out (by kernel_rfl)) (fun _ _ _ h => h) (Or.inr ⟨by rfl, rfl⟩) ?_ ?_
       rotate_left
       ·simp only [putS]
        rfl
       refine pure_ (i := 16) (N := some 26) (v := undef) (a' := ?_) qx13_27 rfl rfl (any_of HT_.out (by kernel_rfl)) (fun _ _ _ h => h) (Or.inr ⟨by rfl, rfl⟩) ?_ ?_
       rotate_left
       ·simp only [putS]
        rfl
       refine pure_ (i := 17) (N := some 27) (v := undef) (a' := ?_) qx13_28 rfl rfl (any_of HT_.out (by kernel_rfl)) (fun _ _ _ h => h) (Or.inr ⟨by rfl, rfl⟩) ?_ ?_
       rotate_left
       ·simp only [putS]
        rfl
       refine pure_ (i := 18) (N := some 28) (v := undef) (a' := ?_) qx13_29 rfl rfl (any_of HT_.out (by kernel_rfl)) (fun _ _ _ h => h) (Or.inr ⟨by rfl, rfl⟩) ?_ ?_
       rotate_left
       ·simp only [putS]
        rfl
       refine pure_ (i := 19) (N := some 29) (v := undef) (a' := ?_) qx13_16 rfl rfl (any_of HT_.out (by kernel_rfl)) (fun _ _ _ h => h) (Or.inr ⟨by rfl, rfl⟩) ?_ ?_
       rotate_left
       ·simp only [putS]
        rfl
       refine pure_ (i := 20) (N := some 30) (v := undef) (a' := ?_) qx13_17 rfl rfl (any_of HT_.out (by kernel_rfl)) (fun _ _ _ h => h) (Or.inr ⟨by rfl, rfl⟩) ?_ ?_
       rotate_left
       ·simp only [putS]
        rfl
       refine pure_ (i := 21) (N := some 31) (v := undef) (a' := ?_) qx13_18 rfl rfl (any_of HT_.out (by kernel_rfl)) (fun _ _ _ h => h) (Or.inr ⟨by rfl, rfl⟩) ?_ ?_
       rotate_left
       ·simp only [putS]
        rfl
       refine pure_ (i := 22) (N := some 32) (v := undef) (a' := ?_) qx13_19 rfl rfl (any_of HT_.out (by kernel_rfl)) (fun _ _ _ h => h) (Or.inr ⟨by rfl, rfl⟩) ?_ ?_
       rotate_left
       ·simp only [putS]
        rfl
       refine pure_ (i := 23) (N := some 33) (v := ?_) (a' := ?_) qx13_20 rfl rfl (any_of HT_.out (by kernel_rfl)) (fun _ _ _ h => h) (Or.inl ⟨by rfl, ?_⟩) ?_ ?_
       rotate_left
       ·intro w'
        go_simp
        with_reducible rfl
       rotate_left
       ·simp only [putS]
        rfl
       refine pure_ (i := 24) (N := some 34) (v := ?_) (a' := ?_) qx13_21 rfl rfl (any_of HT_.out (by kernel_rfl)) (fun _ _ _ h => h) (Or.inl ⟨by rfl, ?_⟩) ?_ ?_
       rotate_left
       ·intro w'
        go_simp
        with_reducible rfl
       rotate_left
       ·simp only [putS]
        rfl
       refine done_ (done_of HT_.out (by kernel_rfl)) ?_
       try go_wp2
       go_roundg k1
       case measure => have := HK1.out; omega
       case rel => exact ⟨(wrap64 (x3_1 + 1)), (by first | rfl | (simp; done) | (simp [*]; done)), H', ⟨by have := HK1.out; omega⟩, ⟨by repeat (first | (with_reducible first | exact HB.out | apply below_alloc | apply pw_below_drewN | apply below_drew1) | exact HB.out)⟩⟩
     ·replace c5 := Bool.eq_false_iff.mpr c5
      subst c5
      have H1 : (some false) = some r := by rw [if_neg (show ¬ (false = true) by decide)] at H; exact H
      clear H
      have H := H1
      clear H1
      obtain rfl := Option.some.inj H
      try go_wp2
      have n0_ := am (below_drew1 HB.out)
      clear HB
      have HB := n0_
      clear n0_
      have p154 : 0 ≤ (x3_1 : Int) := of_decide_eq_true (by first | (with_reducible assumption) | assumption)
      have q154 : x3_1 < (l0.length : Int) := of_decide_eq_true (by first | (with_reducible assumption) | assumption)
      obtain ⟨ad154, e154, hx154_0, hx154_1, hx154_2, hx154_3, hx154_4, hx154_5, hx154_6, hx154_7, hx154_8, hx154_9, hx154_10, hx154_11⟩ := at_T30 HR0.out x3_1 p154 q154
      have hw154_11 := hx154_11
      have hw154_10 := hx154_10
      have hw154_9 := hx154_9
      have hw154_8 := hx154_8
      have hw154_7 := hx154_7
      have hw154_6 := hx154_6
      have hw154_5 := hx154_5
      have hw154_4 := hx154_4
      have hw154_3 := hx154_3
      have hw154_2 := hx154_2
      have hw154_1 := hx154_1
      have hw154_0 := hx154_0
      cases e154
      replace hx154_0 := cellUp HB.out hx154_0
      replace hx154_1 := cellUp HB.out hx154_1
      replace hx154_2 := cellUp HB.out hx154_2
      replace hx154_3 := cellUp HB.out hx154_3
      replace hx154_4 := cellUp HB.out hx154_4
      replace hx154_5 := cellUp HB.out hx154_5
      replace hx154_6 := cellUp HB.out hx154_6
      replace hx154_7 := cellUp HB.out hx154_7
      replace hx154_8 := cellUp HB.out hx154_8
      replace hx154_9 := cellUp HB.out hx154_9
      replace hx154_10 := cellUp HB.out hx154_10
      replace hx154_11 := cellUp HB.out hx154_11
      replace p154 := eq_true p154
      replace q154 := eq_true q154
      refine start_ (n := 25) (S := fun w' => w'.cell? (ad154.add ((x3_1).toNat * 12)) = some (.int .i64 ((rd_T30 l0 x3_1).f0.f0)) ∧ w'.cell? ⟨(ad154.add ((x3_1).toNat * 12)).block, (ad154.add ((x3_1).toNat * 12)).off + 1, none⟩ = some (.int .i64 ((rd_T30 l0 x3_1).f0.f1)) ∧ w'.cell? ⟨(ad154.add ((x3_1).toNat * 12)).block, (ad154.add ((x3_1).toNat * 12)).off + 2, none⟩ = some (.int .i64 ((rd_T30 l0 x3_1).f1)) ∧ w'.cell? ⟨(ad154.add ((x3_1).toNat * 12)).block, (ad154.add ((x3_1).toNat * 12)).off + 3, none⟩ = some (.int .i64 ((rd_T30 l0 x3_1).f2.f0)) ∧ w'.cell? ⟨(ad154.add ((x3_1).toNat * 12)).block, (ad154.add ((x3_1).toNat * 12)).off + 4, none⟩ = some (.int .i64 ((rd_T30 l0 x3_1).f2.f1)) ∧ w'.cell? ⟨(ad154.add ((x3_1).toNat * 12)).block, (ad154.add ((x3_1).toNat * 12)).off + 5, none⟩ = some (.int .i64 ((rd_T30 l0 x3_1).f3.f0)) ∧ w'.cell? ⟨(ad154.add ((x3_1).toNat * 12)).block, (ad154.add ((x3_1).toNat * 12)).off + 6, none⟩ = some (.int .i64 ((rd_T30 l0 x3_1).f3.f1)) ∧ w'.cell? ⟨(ad154.add ((x3_1).toNat * 12)).block, (ad154.add ((x3_1).toNat * 12)).off + 7, none⟩ = some (.int .i64 ((rd_T30 l0 x3_1).f4.f0)) ∧ w'.cell? ⟨(ad154.add ((x3_1).toNat * 12)).block, (ad154.add ((x3_1).toNat * 12)).off + 8, none⟩ = some (.int .i64 ((rd_T30 l0 x3_1).f4.f1)) ∧ w'.cell? ⟨(ad154.add ((x3_1).toNat * 12)).block, (ad154.add ((x3_1).toNat * 12)).off + 9, none⟩ = some (.int .i64 ((rd_T30 l0 x3_1).f5)) ∧ w'.cell? ⟨(ad154.add ((x3_1).toNat * 12)).block, (ad154.add ((x3_1).toNat * 12)).off + 10, none⟩ = some (.bool ((rd_T30 l0 x3_1).f6)) ∧ w'.cell? ⟨(ad154.add ((x3_1).toNat * 12)).block, (ad154.add ((x3_1).toNat * 12)).off + 11, none⟩ = some (.string ((rd_T30 l0 x3_1).f7))) (ds := []) qx13_0 (by kernel_rfl) rfl rfl ⟨((HB.out.cell (World.block_lt_of_cell? w _ hw154_0)).trans hw154_0), ((HB.out.cell (World.block_lt_of_cell? w _ hw154_1)).trans hw154_1), ((HB.out.cell (World.block_lt_of_cell? w _ hw154_2)).trans hw154_2), ((HB.out.cell (World.block_lt_of_cell? w _ hw154_3)).trans hw154_3), ((HB.out.cell (World.block_lt_of_cell? w _ hw154_4)).trans hw154_4), ((HB.out.cell (World.block_lt_of_cell? w _ hw154_5)).trans hw154_5), ((HB.out.cell (World.block_lt_of_cell? w _ hw154_6)).trans hw154_6), ((HB.out.cell (World.block_lt_of_cell? w _ hw154_7)).trans hw154_7), ((HB.out.cell (World.block_lt_of_cell? w _ hw154_8)).trans hw154_8), ((HB.out.cell (World.block_lt_of_cell? w _ hw154_9)).trans hw154_9), ((HB.out.cell (World.block_lt_of_cell? w _ hw154_10)).trans hw154_10), ((HB.out.cell (World.block_lt_of_cell? w _ hw154_11)).trans hw154_11)⟩ (fun hHeld => ?_); refine with_tabW spec_validLog.tab4 spec_validLog.bits4 (fun HT_ HW_ => ?_)
      generalize wr.drew = w20 at HB hx154_0 hx154_1 hx154_10 hx154_11 hx154_2 hx154_3 hx154_4 hx154_5 hx154_6 hx154_7 hx154_8 hx154_9 hHeld ⊢
      refine pure_ (i := 0) (N := some 10) (v := ?_) (a' := ?_) qx13_1 rfl rfl (any_of HT_.out (by kernel_rfl)) (fun _ _ _ h => h) (Or.inl ⟨by rfl, ?_⟩) ?_ ?_
      rotate_left
      ·intro w'
       go_simp
       with_reducible rfl
      rotate_left
      ·simp only [putS]
       rfl
      refine pure_ (i := 1) (N := some 11) (v := ?_) (a' := ?_) qx13_2 rfl rfl (any_of HT_.out (by kernel_rfl)) (fun _ _ _ h => h) (Or.inl ⟨by rfl, ?_⟩) ?_ ?_
      rotate_left
      ·intro w'
       go_simp
       with_reducible rfl
      rotate_left
      ·simp only [putS]
       rfl
      refine pure_ (i := 2) (N := some 12) (v := ?_) (a' := ?_) qx13_3 rfl rfl (any_of HT_.out (by kernel_rfl)) (fun _ _ _ h => h) (Or.inl ⟨by rfl, ?_⟩) ?_ ?_
      rotate_left
      ·intro w'
       go_simp
       with_reducible rfl
      rotate_left
      ·simp only [putS]
       rfl
      refine take_ (i := 3) (N := some 13) (v := ?_) (a' := ?_) qx13_4 rfl rfl (take_ofW HT_.out HW_.out (by kernel_rfl)) (fun _ _ _ h => h) (Or.inl ⟨by rfl, ?_⟩) hHeld ?_ ?_
      rotate_left
      ·rintro w' ⟨s0, s1, s2, s3, s4, s5, s6, s7, s8, s9, s10, s11⟩
       go_simp
       with_reducible rfl
      rotate_left
      ·simp only [putS]
       rfl
      refine one_ (i := 4) (N := some 14) qx13_5 rfl rfl (one_of HT_.out (by kernel_rfl)) (by decide) (fun K hK => ?_)
      refine goes_ Try.func41 (by kernel_rfl) rfl #[.agg #[.int .i64 ((rd_T30 l0 x3_1).f0.f0), .int .i64 ((rd_T30 l0 x3_1).f0.f1), .int .i64 ((rd_T30 l0 x3_1).f1), .int .i64 ((rd_T30 l0 x3_1).f2.f0), .int .i64 ((rd_T30 l0 x3_1).f2.f1), .int .i64 ((rd_T30 l0 x3_1).f3.f0), .int .i64 ((rd_T30 l0 x3_1).f3.f1), .int .i64 ((rd_T30 l0 x3_1).f4.f0), .int .i64 ((rd_T30 l0 x3_1).f4.f1), .int .i64 ((rd_T30 l0 x3_1).f5), .bool ((rd_T30 l0 x3_1).f6), .string ((rd_T30 l0 x3_1).f7)]] (by rfl) rfl rfl (by (try simp only [List.map_toArray, List.map_cons, List.map_nil]); first | done | rfl | (simp only [List.length_drop, List.length_take]; rfl)) ?_
      with_reducible refine (spec_validOp.calls ((rd_T30 l0 x3_1).f0.f0) ((rd_T30 l0 x3_1).f0.f1) ((rd_T30 l0 x3_1).f1) ((rd_T30 l0 x3_1).f2.f0) ((rd_T30 l0 x3_1).f2.f1) ((rd_T30 l0 x3_1).f3.f0) ((rd_T30 l0 x3_1).f3.f1) ((rd_T30 l0 x3_1).f4.f0) ((rd_T30 l0 x3_1).f4.f1) ((rd_T30 l0 x3_1).f5) ((rd_T30 l0 x3_1).f6) ((rd_T30 l0 x3_1).f7) false _ A4.out).mono ?_
      rintro e w21 ⟨rfl, hb⟩
      refine ⟨_, rfl, ?_⟩
      have n0_ := am (below_step (by repeat (first | (with_reducible first | exact HB.out | apply below_alloc | apply pw_below_drewN | apply below_drew1) | exact HB.out)) hb)
      clear HB
      have HB := n0_
      clear n0_
      (try clear hb)
      (try clear hb2)
      (try clear hk)
      (try clear hi)
      refine hK.out _ _ ⟨((HB.out.cell (World.block_lt_of_cell? w _ hw154_0)).trans hw154_0), ((HB.out.cell (World.block_lt_of_cell? w _ hw154_1)).trans hw154_1), ((HB.out.cell (World.block_lt_of_cell? w _ hw154_2)).trans hw154_2), ((HB.out.cell (World.block_lt_of_cell? w _ hw154_3)).trans hw154_3), ((HB.out.cell (World.block_lt_of_cell? w _ hw154_4)).trans hw154_4), ((HB.out.cell (World.block_lt_of_cell? w _ hw154_5)).trans hw154_5), ((HB.out.cell (World.block_lt_of_cell? w _ hw154_6)).trans hw154_6), ((HB.out.cell (World.block_lt_of_cell? w _ hw154_7)).trans hw154_7), ((HB.out.cell (World.block_lt_of_cell? w _ hw154_8)).trans hw154_8), ((HB.out.cell (World.block_lt_of_cell? w _ hw154_9)).trans hw154_9), ((HB.out.cell (World.block_lt_of_cell? w _ hw154_10)).trans hw154_10), ((HB.out.cell (World.block_lt_of_cell? w _ hw154_11)).trans hw154_11)⟩ (fun hHeld => ?_)
      clear hK K
      refine norm_ (a' := ?_) ?_ ?_
      rotate_left
      ·show Act.put _ (some 14) _ = _
       simp only [putS]
       rfl
      refine pure_ (i := 5) (N := some 15) (v := ?_) (a' := ?_) qx13_6 rfl rfl (any_of HT_.out (by kernel_rfl)) (fun _ _ _ h => h) (Or.inl ⟨by rfl, ?_⟩) ?_ ?_
      rotate_left
      ·intro w'
       go_simp
       with_reducible rfl
      rotate_left
      ·simp only [putS]
       rfl
      refine pure_ (i := 6) (N := some 16) (v := ?_) (a' := ?_) qx13_7 rfl rfl (any_of HT_.out (by kernel_rfl)) (fun _ _ _ h => h) (Or.inl ⟨by rfl, ?_⟩) ?_ ?_
      rotate_left
      ·intro w'
       go_simp
       with_reducible rfl
      rotate_left
      ·simp only [putS]
       rfl
      refine pure_ (i := 7) (N := some 17) (v := undef) (a' := ?_) qx13_8 rfl rfl (any_of HT_.out (by kernel_rfl)) (fun _ _ _ h => h) (Or.inr ⟨by rfl, rfl⟩) ?_ ?_
      rotate_left
      ·simp only [putS]
       rfl
      refine pure_ (i := 8) (N := some 18) (v := undef) (a' := ?_) qx13_9 rfl rfl (any_of HT_.out (by kernel_rfl)) (fun _ _ _ h => h) (Or.inr ⟨by rfl, rfl⟩) ?_ ?_
      rotate_left
      ·simp only [putS]
       rfl
      refine pure_ (i := 9) (N := some 19) (v := undef) (a' := ?_) qx13_10 rfl rfl (any_of HT_.out (by kernel_rfl)) (fun _ _ _ h => h) (Or.inr ⟨by rfl, rfl⟩) ?_ ?_
      rotate_left
      ·simp only [putS]
       rfl
      refine pure_ (i := 10) (N := some 20) (v := undef) (a' := ?_) qx13_11 rfl rfl (any_of HT_.out (by kernel_rfl)) (fun _ _ _ h => h) (Or.inr ⟨by rfl, rfl⟩) ?_ ?_
      rotate_left
      ·simp only [putS]
       rfl
      refine pure_ (i := 11) (N := some 21) (v := undef) (a' := ?_) qx13_12 rfl rfl (any_of HT_.out (by kernel_rfl)) (fun _ _ _ h => h) (Or.inr ⟨by rfl, rfl⟩) ?_ ?_
      rotate_left
      ·simp only [putS]
       rfl
      refine pure_ (i := 12) (N := some 22) (v := undef) (a' := ?_) qx13_13 rfl rfl (any_of HT_.out (by kernel_rfl)) (fun _ _ _ h => h) (Or.inr ⟨by rfl, rfl⟩) ?_ ?_
      rotate_left
      ·simp only [putS]
       rfl
      refine pure_ (i := 13) (N := some 23) (v := undef) (a' := ?_) qx13_14 rfl rfl (any_of HT_.out (by kernel_rfl)) (fun _ _ _ h => h) (Or.inr ⟨by rfl, rfl⟩) ?_ ?_
      rotate_left
      ·simp only [putS]
       rfl
      refine pure_ (i := 14) (N := some 24) (v := undef) (a' := ?_) qx13_15 rfl rfl (any_of HT_.out (by kernel_rfl)) (fun _ _ _ h => h) (Or.inr ⟨by rfl, rfl⟩) ?_ ?_
      rotate_left
      ·simp only [putS]
       rfl
      refine pure_ (i := 15) (N := some 25) (v := undef) (a' := ?_) qx13_26 rfl rfl (any_of HT_.out (by kernel_rfl)) (fun _ _ _ h => h) (Or.inr ⟨by rfl, rfl⟩) ?_ ?_
      rotate_left
      ·simp only [putS]
       rfl
      refine pure_ (i := 16) (N := some 26) (v := undef) (a' := ?_) qx13_27 rfl rfl (any_of HT_.out (by kernel_rfl)) (fun _ _ _ h => h) (Or.inr ⟨by rfl, rfl⟩) ?_ ?_
      rotate_left
      ·simp only [putS]
       rfl
      refine pure_ (i := 17) (N := some 27) (v := undef) (a' := ?_) qx13_28 rfl rfl (any_of HT_.out (by kernel_rfl)) (fun _ _ _ h => h) (Or.inr ⟨by rfl, rfl⟩) ?_ ?_
      rotate_left
      ·simp only [putS]
       rfl
      refine pure_ (i := 18) (N := some 28) (v := undef) (a' := ?_) qx13_29 rfl rfl (any_of HT_.out (by kernel_rfl)) (fun _ _ _ h => h) (Or.inr ⟨by rfl, rfl⟩) ?_ ?_
      rotate_left
      ·simp only [putS]
       rfl
      refine pure_ (i := 19) (N := some 29) (v := undef) (a' := ?_) qx13_16 rfl rfl (any_of HT_.out (by kernel_rfl)) (fun _ _ _ h => h) (Or.inr ⟨by rfl, rfl⟩) ?_ ?_
      rotate_left
      ·simp only [putS]
       rfl
      refine pure_ (i := 20) (N := some 30) (v := undef) (a' := ?_) qx13_17 rfl rfl (any_of HT_.out (by kernel_rfl)) (fun _ _ _ h => h) (Or.inr ⟨by rfl, rfl⟩) ?_ ?_
      rotate_left
      ·simp only [putS]
       rfl
      refine pure_ (i := 21) (N := some 31) (v := undef) (a' := ?_) qx13_18 rfl rfl (any_of HT_.out (by kernel_rfl)) (fun _ _ _ h => h) (Or.inr ⟨by rfl, rfl⟩) ?_ ?_
      rotate_left
      ·simp only [putS]
       rfl
      refine pure_ (i := 22) (N := some 32) (v := undef) (a' := ?_) qx13_19 rfl rfl (any_of HT_.out (by kernel_rfl)) (fun _ _ _ h => h) (Or.inr ⟨by rfl, rfl⟩) ?_ ?_
      rotate_left
      ·simp only [putS]
       rfl
      refine pure_ (i := 23) (N := some 33) (v := undef) (a' := ?_) qx13_20 rfl rfl (any_of HT_.out (by kernel_rfl)) (fun _ _ _ h => h) (Or.inr ⟨by rfl, rfl⟩) ?_ ?_
      rotate_left
      ·simp only [putS]
       rfl
      refine pure_ (i := 24) (N := some 34) (v := ?_) (a' := ?_) qx13_21 rfl rfl (any_of HT_.out (by kernel_rfl)) (fun _ _ _ h => h) (Or.inl ⟨by rfl, ?_⟩) ?_ ?_
      rotate_left
      ·intro w'
       go_simp
       with_reducible rfl
      rotate_left
      ·simp only [putS]
       rfl
      refine done_ (done_of HT_.out (by kernel_rfl)) ?_
      try go_wp2
      go_ret
      exact ⟨by first | rfl | (simp [errW_none, errW_some] <;> rfl) | (simp [*, errW_none, errW_some] <;> rfl), by repeat (first | (with_reducible first | exact HB.out | apply below_alloc | apply pw_below_drewN | apply below_drew1) | exact HB.out)⟩
    ·rw [if_neg c3] at H
     exact absurd H (by simp)
   ·rw [if_neg c2] at H
    have c2b0 : decide (x3_1 < (l0.length : Int)) = false := decide_eq_false c2
    clear c2
    obtain rfl := Option.some.inj H
    go_wp2
    go_ret
    exact ⟨by first | rfl | (simp [errW_none, errW_some] <;> rfl) | (simp [*, errW_none, errW_some] <;> rfl), by repeat (first | (with_reducible first | exact HB.out | apply below_alloc | apply pw_below_drewN | apply below_drew1) | exact HB.out)⟩

end Go.Proofs.Ytomigiindmojkaa.QJ

/- A call of each function named here does what the Lean function of that name says. Conditions: each theorem's premises. Printed by the kit, repaired by a program, joined with texts by hand. -/
import Derived.Test.YtomigiindmojkaaQJx0
import Derived.Test.YtomigiindmojkaaQJx16
import Derived.Test.YtomigiindmojkaaQJx17
namespace Go.Proofs.Ytomigiindmojkaa.QJ
open Go.Proofs.Ytomigiindmojkaa.Base Go.RowKit Go.Proofs.YtomigiindmojkaaW.PrintWords Go.Proofs.YtomigiindmojkaaW.PrintLast Go.Proofs.YtomigiindmojkaaW.PrintMore
attribute [local go_sem] max2_int min2_int max_two min_two max_three min_three max_four min_four   -- for this text's walks alone
set_option linter.unusedVariables false
set_option linter.unusedSimpArgs false

def qx18_0 : Array Bool := #[false, false, false, false, false, false, false, false, false, false, false, false, false, false, false, false, false, false, false]
def qx18_1 : Array Bool := #[true, false, false, false, false, false, false, false, false, false, false, false, false, false, false, false, false, false, false]
def qx18_2 : Array Bool := #[true, true, false, false, false, false, false, false, false, false, false, false, false, false, false, false, false, false, false]
def qx18_3 : Array Bool := #[true, true, true, false, false, false, false, false, false, false, false, false, false, false, false, false, false, false, false]
def qx18_4 : Array Bool := #[true, true, true, true, false, false, false, false, false, false, false, false, false, false, false, false, false, false, false]
def qx18_5 : Array Bool := #[true, true, true, true, true, false, false, false, false, false, false, false, false, false, false, false, false, false, false]
def qx18_6 : Array Bool := #[true, true, true, true, true, true, false, false, false, false, false, false, false, false, false, false, false, false, false]
def qx18_7 : Array Bool := #[true, true, true, true, true, true, true, false, false, false, false, false, false, false, false, false, false, false, false]
def qx18_8 : Array Bool := #[true, true, true, true, true, true, true, true, false, false, false, false, false, false, false, false, false, false, false]
def qx18_9 : Array Bool := #[true, true, true, true, true, true, true, true, true, false, false, false, false, false, false, false, false, false, false]
def qx18_10 : Array Bool := #[true, true, true, true, true, true, true, true, true, true, false, false, false, false, false, false, false, false, false]
def qx18_11 : Array Bool := #[true, true, true, true, true, true, true, true, true, true, true, false, false, false, false, false, false, false, false]
def qx18_12 : Array Bool := #[true, true, true, true, true, true, true, true, true, true, true, true, false, false, false, false, false, false, false]
def qx18_13 : Array Bool := #[true, true, true, true, true, true, true, true, true, true, true, true, true, true, false, false, false, false, false]
def qx18_14 : Array Bool := #[true, true, true, true, true, true, true, true, true, true, true, true, true, true, true, false, false, false, false]
def qx18_15 : Array Bool := #[true, true, true, true, true, true, true, true, true, true, true, true, true, true, true, true, false, false, false]
def qx18_16 : Array Bool := #[true, true, true, true, true, true, true, true, true, true, true, true, true, true, true, true, true, false, false]
def qx18_17 : Array Bool := #[true, true, true, true, true, true, true, true, true, true, true, true, true, true, true, true, true, true, false]
def qx18_18 : Array Bool := #[true, true, true, true, true, true, true, true, true, true, true, true, true, true, true, true, true, true, true]
def qx18_19 : Array Bool := #[true, true, true, true, true, true, true, true, true, true, true, true, false, true, false, false, false, false, false]
def qx18_20 : Array Bool := #[true, true, true, true, true, true, true, true, true, true, true, true, true, false, false, false, false, false, false]
/-! ### impl_ValidLog: function 18 -/
def impl_ValidLog.l0 : Nat → List (S30) → List (S30) → Int → Int → Option (Bool)
 | 0, _, _, _, _ => none
 | k + 1, x0, x5, x6, x7 => if x7 < x6 then (if 0 ≤ x7 then (if x7 < (x5.length : Int) then ((impl_ValidOp.f ((rd_T30 x5 x7).f0.f0) ((rd_T30 x5 x7).f0.f1) ((rd_T30 x5 x7).f1) ((rd_T30 x5 x7).f2.f0) ((rd_T30 x5 x7).f2.f1) ((rd_T30 x5 x7).f3.f0) ((rd_T30 x5 x7).f3.f1) ((rd_T30 x5 x7).f4.f0) ((rd_T30 x5 x7).f4.f1) ((rd_T30 x5 x7).f5) ((rd_T30 x5 x7).f6) ((rd_T30 x5 x7).f7)).bind fun t237 => (if t237 = true then (if x7 > 0 then (if 0 ≤ (wrap64 (x7 - 1)) then (if (wrap64 (x7 - 1)) < (x0.length : Int) then ((impl_StampLess.f ((rd_T30 x0 (wrap64 (x7 - 1))).f0.f0) ((rd_T30 x0 (wrap64 (x7 - 1))).f0.f1) ((rd_T30 x5 x7).f0.f0) ((rd_T30 x5 x7).f0.f1)).bind fun t239 => (if t239 = true then (impl_ValidLog.l0 k x0 x5 x6 (wrap64 (x7 + 1))) else (some false))) else (none)) else (none)) else (impl_ValidLog.l0 k x0 x5 x6 (wrap64 (x7 + 1)))) else (some false))) else (none)) else (none)) else (some (decide ((x0.length : Int) ≤ 40)))
def impl_ValidLog.f (k : Nat) (l0 : List (S30)) : Option (Bool) := impl_ValidLog.l0 k l0 l0 (l0.length : Int) 0
theorem impl_ValidLog.mono_l : ∀ k, (∀ y0 y1 y2 y3, LeO (impl_ValidLog.l0 k y0 y1 y2 y3) (impl_ValidLog.l0 (k + 1) y0 y1 y2 y3))
 | 0 => fun _ _ _ _ r h => by simp [impl_ValidLog.l0] at h
 | k + 1 => by
  have ih0 := impl_ValidLog.mono_l k
  ·intro y0 y1 y2 y3
   unfold impl_ValidLog.l0
   repeat' first
   | (with_reducible exact ih0 _ _ _ _)
   | (with_reducible exact LeO.refl _)
   | (with_reducible exact LeO.none _)
   | (with_reducible refine LeO.ite ?_ ?_)
   | (with_reducible refine LeO.bind ?_ (fun _ => ?_))
theorem impl_ValidLog.mono : ∀ a0 k, LeO (impl_ValidLog.f k a0) (impl_ValidLog.f (k + 1) a0) := by
 intro a0 k
 have ih0 := impl_ValidLog.mono_l k
 unfold impl_ValidLog.f
 repeat' first
   | (with_reducible exact ih0 _ _ _ _)
   | (with_reducible exact LeO.refl _)
   | (with_reducible exact LeO.none _)
   | (with_reducible refine LeO.ite ?_ ?_)
   | (with_reducible refine LeO.bind ?_ (fun _ => ?_))
def impl_ValidLog.T4 : Bool × List (List Nat × List Nat) := (true, [([], []), ([0], [0]), ([1], [1]), ([2, 1], [2]), ([3], [3]), ([4, 3], [3, 4]), ([5, 3, 3], [3, 5]), ([6], [6]), ([6], [6]), ([8, 6], [6, 8]), ([7, 9, 6], [6, 7, 9]), ([10, 6], [6, 10]), ([11, 6], [6, 11]), ([6], [6]), ([13, 6], [6, 13]), ([12, 14, 6, 6], [6, 12, 14]), ([15, 6], [6, 15]), ([6, 16, 3], [3, 6, 16]), ([3, 17], [3, 17])])
def impl_ValidLog.B4 : List Nat := [0, 1, 3, 7, 15, 31, 63, 127, 127, 383, 1023, 2047, 4095, 127, 8319, 32767, 65535, 131071, 262143]
theorem impl_ValidLog.tab4 : rtab .any (opsOf Try.f18 4) = impl_ValidLog.T4 := by kernel_rfl
theorem impl_ValidLog.bits4 : waitsOk impl_ValidLog.T4.2 impl_ValidLog.B4 = true := by kernel_rfl
set_option maxHeartbeats 8000000 in
set_option maxRecDepth 100000 in
theorem impl_ValidLog.calls (k : Nat) (A0 : Option Addr) (c0 : Nat) (l0 : List (S30)) (r : Bool) (w : World) (hr0 : Kd.C k30 w A0 l0.length l0) (hc0 : l0.length ≤ c0) (h : impl_ValidLog.f k l0 = some r) :
  Calls Try.prog 18 #[.slice A0 l0.length c0] w fun e w' => e = .returned (.bool r) ∧ Below w.heap.size w w' := by
 have hu30 := Try.underlying30
 have hu28 := Try.underlying28
 have HR0 := am hr0
 have HC0 := am hc0
 clear hr0 hc0
 have HB := am (Below.refl w.heap.size w)
 have H : (impl_ValidLog.l0 k l0 l0 (l0.length : Int) 0) = some r := h
 clear h
 have H' := am H
 clear H
 go_enter Try.func18, Try.ntmps18
 go_wp2
 go_loopg [7] k (fun kq v7 w' => ∃ (x7_1 : Int), v7 = .int .i64 x7_1 ∧ Aside0 (impl_ValidLog.l0 kq l0 l0 (l0.length : Int) x7_1 = some r) ∧ Aside0 (kq ≤ k) ∧ Aside0 (Below w.heap.size w w'))
 case atStart => exact ⟨(0), (by first | rfl | (simp; done) | (simp [*]; done)), H', ⟨Nat.le_refl _⟩, ⟨by repeat (first | (with_reducible first | exact HB.out | apply below_alloc | apply pw_below_drewN | apply below_drew1) | exact HB.out)⟩⟩
 case round =>
  clear H'
  try clear c1
  obtain ⟨x7_1, rfl, HA, HK1, HB⟩ := hrel
  cases gk with
  | zero => exact absurd HA.out (by simp [impl_ValidLog.l0])
  | succ k1 =>
   have H := HA.out
   clear HA
   simp only [impl_ValidLog.l0] at H
   by_cases c2 : x7_1 < (l0.length : Int)
   ·rw [if_pos c2] at H
    have c2b0 : decide (x7_1 < (l0.length : Int)) = true := decide_eq_true c2
    clear c2
    by_cases c3 : 0 ≤ x7_1
    ·rw [if_pos c3] at H
     have c3b0 : decide (0 ≤ x7_1) = true := decide_eq_true c3
     clear c3
     by_cases c4 : x7_1 < (l0.length : Int)
     ·rw [if_pos c4] at H
      have c4b0 : decide (x7_1 < (l0.length : Int)) = true := decide_eq_true c4
      clear c4
      replace H := Option.bind_eq_some_iff.mp H
      obtain ⟨t237, A50, H⟩ := H
      replace H : (if t237 = true then (if x7_1 > 0 then (if 0 ≤ (wrap64 (x7_1 - 1)) then (if (wrap64 (x7_1 - 1)) < (l0.length : Int) then ((impl_StampLess.f ((rd_T30 l0 (wrap64 (x7_1 - 1))).f0.f0) ((rd_T30 l0 (wrap64 (x7_1 - 1))).f0.f1) ((rd_T30 l0 x7_1).f0.f0) ((rd_T30 l0 x7_1).f0.f1)).bind fun t239 => (if t239 = true then (impl_ValidLog.l0 k1 l0 l0 (l0.length : Int) (wrap64 (x7_1 + 1))) else (some false))) else (none)) else (none)) else (impl_ValidLog.l0 k1 l0 l0 (l0.length : Int) (wrap64 (x7_1 + 1)))) else (some false)) = some r := H
      have A5 := am A50
      clear A50
      by_cases c6 : t237 = true
      ·subst c6
       have H1 : (if x7_1 > 0 then (if 0 ≤ (wrap64 (x7_1 - 1)) then (if (wrap64 (x7_1 - 1)) < (l0.length : Int) then ((impl_StampLess.f ((rd_T30 l0 (wrap64 (x7_1 - 1))).f0.f0) ((rd_T30 l0 (wrap64 (x7_1 - 1))).f0.f1) ((rd_T30 l0 x7_1).f0.f0) ((rd_T30 l0 x7_1).f0.f1)).bind fun t239 => (if t239 = true then (impl_ValidLog.l0 k1 l0 l0 (l0.length : Int) (wrap64 (x7_1 + 1))) else (some false))) else (none)) else (none)) else (impl_ValidLog.l0 k1 l0 l0 (l0.length : Int) (wrap64 (x7_1 + 1)))) = some r := by rw [if_pos rfl] at H; exact H
       clear H
       have H := H1
       clear H1
       by_cases c7 : x7_1 > 0
       ·rw [if_pos c7] at H
        have c7b0 : decide (0 < x7_1) = true := decide_eq_true c7
        clear c7
        obtain ⟨ji8, hji8⟩ : ∃ j_ : Int, (wrap64 (x7_1 - 1)) = j_ := ⟨_, rfl⟩
        replace H : (if 0 ≤ (ji8) then (if (ji8) < (l0.length : Int) then ((impl_StampLess.f ((rd_T30 l0 (ji8)).f0.f0) ((rd_T30 l0 (ji8)).f0.f1) ((rd_T30 l0 x7_1).f0.f0) ((rd_T30 l0 x7_1).f0.f1)).bind fun t239 => (if t239 = true then (impl_ValidLog.l0 k1 l0 l0 (l0.length : Int) (wrap64 (x7_1 + 1))) else (some false))) else (none)) else (none)) = some r := by first | (rw [hji8] at H; exact H) | (simp only [hji8] at H ⊢; exact H)
        (try rw [hji8] at A5)
        have hji8w : (IntKind.i64.wrap (x7_1 - 1)) = ji8 := (i64_w _).trans hji8
        by_cases c9 : 0 ≤ (ji8)
        ·rw [if_pos c9] at H
         have c9b0 : decide (0 ≤ (ji8)) = true := decide_eq_true c9
         clear c9
         by_cases c10 : (ji8) < (l0.length : Int)
         ·rw [if_pos c10] at H
          have c10b0 : decide ((ji8) < (l0.length : Int)) = true := decide_eq_true c10
          clear c10
          replace H := Option.bind_eq_some_iff.mp H
          obtain ⟨t239, A110, H⟩ := H
          replace H : (if t239 = true then (impl_ValidLog.l0 k1 l0 l0 (l0.length : Int) (wrap64 (x7_1 + 1))) else (some false)) = some r := H
          have A11 := am A110
          clear A110
          by_cases c12 : t239 = true
          ·subst c12
           have H1 : (impl_ValidLog.l0 k1 l0 l0 (l0.length : Int) (wrap64 (x7_1 + 1))) = some r := by rw [if_pos rfl] at H; exact H
           clear H
           have H := H1
           clear H1
           have H' := am H
           clear H
           have p235 : 0 ≤ (x7_1 : Int) := of_decide_eq_true (by first | (with_reducible assumption) | assumption)
           have q235 : x7_1 < (l0.length : Int) := of_decide_eq_true (by first | (with_reducible assumption) | assumption)
           obtain ⟨ad235, e235, hx235_0, hx235_1, hx235_2, hx235_3, hx235_4, hx235_5, hx235_6, hx235_7, hx235_8, hx235_9, hx235_10, hx235_11⟩ := at_T30 HR0.out x7_1 p235 q235
           cases e235
           replace hx235_0 := cellUp HB.out hx235_0
           replace hx235_1 := cellUp HB.out hx235_1
           replace hx235_2 := cellUp HB.out hx235_2
           replace hx235_3 := cellUp HB.out hx235_3
           replace hx235_4 := cellUp HB.out hx235_4
           replace hx235_5 := cellUp HB.out hx235_5
           replace hx235_6 := cellUp HB.out hx235_6
           replace hx235_7 := cellUp HB.out hx235_7
           replace hx235_8 := cellUp HB.out hx235_8
           replace hx235_9 := cellUp HB.out hx235_9
           replace hx235_10 := cellUp HB.out hx235_10
           replace hx235_11 := cellUp HB.out hx235_11
           replace p235 := eq_true p235
           replace q235 := eq_true q235
           try go_wp2_with (first | ((with_reducible refine gate_dst (N := 4) rfl ?_); refine box_event ?hg (N := 4) ?hd (cs := #[.int .i64 0, .int .i64 0, .int .i64 0, .int .i64 0, .int .i64 0, .int .i64 0, .int .i64 0, .int .i64 0, .int .i64 0, .int .i64 0, .bool false, .string (⟨#[]⟩ : ByteArray)]) (t := 30) ?hr ?_; (case hd => rfl); (case hg => rfl); (case hr => first | (go_simp; done) | (go_simp; rfl)); intro gb236 hg w13 hbox hb; have n0_ := am (below_step (by repeat (first | (with_reducible first | exact HB.out | apply below_alloc | apply pw_below_drewN | apply below_drew1) | exact HB.out)) hb); have n1_ := am (hbox); have n2_ := am ((by rw [hg]; exact (below_size (by repeat (first | (with_reducible first | exact HB.out | apply below_alloc | apply pw_below_drewN | apply below_drew1) | exact HB.out))) : w.heap.size ≤ gb236)); have n3_ := am ((by rw [hg]; exact (below_size (by repeat (first | (with_reducible first | exact HB.out | apply below_alloc | apply pw_below_drewN | apply below_drew1) | exact HB.out))) : w.heap.size ≤ gb236)); clear HB; have HB := n0_; have BK236 := n1_; have GW236 := n2_; have GE236 := n3_; clear n0_ n1_ n2_ n3_; clear hb hbox hg; have hcz14_0 : w13.cell? ⟨gb236, 0, none⟩ = some (.int .i64 0) := (blk_cell BK236.out 0).trans rfl; have hcz14_1 : w13.cell? ⟨gb236, 1, none⟩ = some (.int .i64 0) := (blk_cell BK236.out 1).trans rfl; have hcz14_2 : w13.cell? ⟨gb236, 2, none⟩ = some (.int .i64 0) := (blk_cell BK236.out 2).trans rfl; have hcz14_3 : w13.cell? ⟨gb236, 3, none⟩ = some (.int .i64 0) := (blk_cell BK236.out 3).trans rfl; have hcz14_4 : w13.cell? ⟨gb236, 4, none⟩ = some (.int .i64 0) := (blk_cell BK236.out 4).trans rfl; have hcz14_5 : w13.cell? ⟨gb236, 5, none⟩ = some (.int .i64 0) := (blk_cell BK236.out 5).trans rfl; have hcz14_6 : w13.cell? ⟨gb236, 6, none⟩ = some (.int .i64 0) := (blk_cell BK236.out 6).trans rfl; have hcz14_7 : w13.cell? ⟨gb236, 7, none⟩ = some (.int .i64 0) := (blk_cell BK236.out 7).trans rfl; have hcz14_8 : w13.cell? ⟨gb236, 8, none⟩ = some (.int .i64 0) := (blk_cell BK236.out 8).trans rfl; have hcz14_9 : w13.cell? ⟨gb236, 9, none⟩ = some (.int .i64 0) := (blk_cell BK236.out 9).trans rfl; have hcz14_10 : w13.cell? ⟨gb236, 10, none⟩ = some (.bool false) := (blk_cell BK236.out 10).trans rfl; have hcz14_11 : w13.cell? ⟨gb236, 11, none⟩ = some (.string (⟨#[]⟩ : ByteArray)) := (blk_cell BK236.out 11).trans rfl; have hfz14_0 := blk_frozen BK236.out 0; have hfz14_1 := blk_frozen BK236.out 1; have hfz14_2 := blk_frozen BK236.out 2; have hfz14_3 := blk_frozen BK236.out 3; have hfz14_4 := blk_frozen BK236.out 4; have hfz14_5 := blk_frozen BK236.out 5; have hfz14_6 := blk_frozen BK236.out 6; have hfz14_7 := blk_frozen BK236.out 7; have hfz14_8 := blk_frozen BK236.out 8; have hfz14_9 := blk_frozen BK236.out 9; have hfz14_10 := blk_frozen BK236.out 10; have hfz14_11 := blk_frozen BK236.out 11))
           have n0_ : Aside0 (((((((((((((w13.setCell ⟨gb236, 0, none⟩ (.int .i64 ((rd_T30 l0 x7_1).f0.f0))).setCell ⟨gb236, 1, none⟩ (.int .i64 ((rd_T30 l0 x7_1).f0.f1))).setCell ⟨gb236, 2, none⟩ (.int .i64 ((rd_T30 l0 x7_1).f1))).setCell ⟨gb236, 3, none⟩ (.int .i64 ((rd_T30 l0 x7_1).f2.f0))).setCell ⟨gb236, 4, none⟩ (.int .i64 ((rd_T30 l0 x7_1).f2.f1))).setCell ⟨gb236, 5, none⟩ (.int .i64 ((rd_T30 l0 x7_1).f3.f0))).setCell ⟨gb236, 6, none⟩ (.int .i64 ((rd_T30 l0 x7_1).f3.f1))).setCell ⟨gb236, 7, none⟩ (.int .i64 ((rd_T30 l0 x7_1).f4.f0))).setCell ⟨gb236, 8, none⟩ (.int .i64 ((rd_T30 l0 x7_1).f4.f1))).setCell ⟨gb236, 9, none⟩ (.int .i64 ((rd_T30 l0 x7_1).f5))).setCell ⟨gb236, 10, none⟩ (.bool ((rd_T30 l0 x7_1).f6))).setCell ⟨gb236, 11, none⟩ (.string ((rd_T30 l0 x7_1).f7))).heap[gb236]? = some (.cells #[.int .i64 ((rd_T30 l0 x7_1).f0.f0), .int .i64 ((rd_T30 l0 x7_1).f0.f1), .int .i64 ((rd_T30 l0 x7_1).f1), .int .i64 ((rd_T30 l0 x7_1).f2.f0), .int .i64 ((rd_T30 l0 x7_1).f2.f1), .int .i64 ((rd_T30 l0 x7_1).f3.f0), .int .i64 ((rd_T30 l0 x7_1).f3.f1), .int .i64 ((rd_T30 l0 x7_1).f4.f0), .int .i64 ((rd_T30 l0 x7_1).f4.f1), .int .i64 ((rd_T30 l0 x7_1).f5), .bool ((rd_T30 l0 x7_1).f6), .string ((rd_T30 l0 x7_1).f7)] 30 (0, 0))) := ⟨by (with_reducible repeat (first | refine blk_drewN ?_ _ | refine blk_drew ?_ | refine blk_alloc ?_ _)); refine blk_put (cs := #[.int .i64 ((rd_T30 l0 x7_1).f0.f0), .int .i64 ((rd_T30 l0 x7_1).f0.f1), .int .i64 ((rd_T30 l0 x7_1).f1), .int .i64 ((rd_T30 l0 x7_1).f2.f0), .int .i64 ((rd_T30 l0 x7_1).f2.f1), .int .i64 ((rd_T30 l0 x7_1).f3.f0), .int .i64 ((rd_T30 l0 x7_1).f3.f1), .int .i64 ((rd_T30 l0 x7_1).f4.f0), .int .i64 ((rd_T30 l0 x7_1).f4.f1), .int .i64 ((rd_T30 l0 x7_1).f5), .bool ((rd_T30 l0 x7_1).f6), .string (⟨#[]⟩ : ByteArray)]) ?_ 11 _ rfl; (with_reducible repeat (first | refine blk_drewN ?_ _ | refine blk_drew ?_ | refine blk_alloc ?_ _)); refine blk_put (cs := #[.int .i64 ((rd_T30 l0 x7_1).f0.f0), .int .i64 ((rd_T30 l0 x7_1).f0.f1), .int .i64 ((rd_T30 l0 x7_1).f1), .int .i64 ((rd_T30 l0 x7_1).f2.f0), .int .i64 ((rd_T30 l0 x7_1).f2.f1), .int .i64 ((rd_T30 l0 x7_1).f3.f0), .int .i64 ((rd_T30 l0 x7_1).f3.f1), .int .i64 ((rd_T30 l0 x7_1).f4.f0), .int .i64 ((rd_T30 l0 x7_1).f4.f1), .int .i64 ((rd_T30 l0 x7_1).f5), .bool false, .string (⟨#[]⟩ : ByteArray)]) ?_ 10 _ rfl; (with_reducible repeat (first | refine blk_drewN ?_ _ | refine blk_drew ?_ | refine blk_alloc ?_ _)); refine blk_put (cs := #[.int .i64 ((rd_T30 l0 x7_1).f0.f0), .int .i64 ((rd_T30 l0 x7_1).f0.f1), .int .i64 ((rd_T30 l0 x7_1).f1), .int .i64 ((rd_T30 l0 x7_1).f2.f0), .int .i64 ((rd_T30 l0 x7_1).f2.f1), .int .i64 ((rd_T30 l0 x7_1).f3.f0), .int .i64 ((rd_T30 l0 x7_1).f3.f1), .int .i64 ((rd_T30 l0 x7_1).f4.f0), .int .i64 ((rd_T30 l0 x7_1).f4.f1), .int .i64 0, .bool false, .string (⟨#[]⟩ : ByteArray)]) ?_ 9 _ rfl; (with_reducible repeat (first | refine blk_drewN ?_ _ | refine blk_drew ?_ | refine blk_alloc ?_ _)); refine blk_put (cs := #[.int .i64 ((rd_T30 l0 x7_1).f0.f0), .int .i64 ((rd_T30 l0 x7_1).f0.f1), .int .i64 ((rd_T30 l0 x7_1).f1), .int .i64 ((rd_T30 l0 x7_1).f2.f0), .int .i64 ((rd_T30 l0 x7_1).f2.f1), .int .i64 ((rd_T30 l0 x7_1).f3.f0), .int .i64 ((rd_T30 l0 x7_1).f3.f1), .int .i64 ((rd_T30 l0 x7_1).f4.f0), .int .i64 0, .int .i64 0, .bool false, .string (⟨#[]⟩ : ByteArray)]) ?_ 8 _ rfl; (with_reducible repeat (first | refine blk_drewN ?_ _ | refine blk_drew ?_ | refine blk_alloc ?_ _)); refine blk_put (cs := #[.int .i64 ((rd_T30 l0 x7_1).f0.f0), .int .i64 ((rd_T30 l0 x7_1).f0.f1), .int .i64 ((rd_T30 l0 x7_1).f1), .int .i64 ((rd_T30 l0 x7_1).f2.f0), .int .i64 ((rd_T30 l0 x7_1).f2.f1), .int .i64 ((rd_T30 l0 x7_1).f3.f0), .int .i64 ((rd_T30 l0 x7_1).f3.f1), .int .i64 0, .int .i64 0, .int .i64 0, .bool false, .string (⟨#[]⟩ : ByteArray)]) ?_ 7 _ rfl; (with_reducible repeat (first | refine blk_drewN ?_ _ | refine blk_drew ?_ | refine blk_alloc ?_ _)); refine blk_put (cs := #[.int .i64 ((rd_T30 l0 x7_1).f0.f0), .int .i64 ((rd_T30 l0 x7_1).f0.f1), .int .i64 ((rd_T30 l0 x7_1).f1), .int .i64 ((rd_T30 l0 x7_1).f2.f0), .int .i64 ((rd_T30 l0 x7_1).f2.f1), .int .i64 ((rd_T30 l0 x7_1).f3.f0), .int .i64 0, .int .i64 0, .int .i64 0, .int .i64 0, .bool false, .string (⟨#[]⟩ : ByteArray)]) ?_ 6 _ rfl; (with_reducible repeat (first | refine blk_drewN ?_ _ | refine blk_drew ?_ | refine blk_alloc ?_ _)); refine blk_put (cs := #[.int .i64 ((rd_T30 l0 x7_1).f0.f0), .int .i64 ((rd_T30 l0 x7_1).f0.f1), .int .i64 ((rd_T30 l0 x7_1).f1), .int .i64 ((rd_T30 l0 x7_1).f2.f0), .int .i64 ((rd_T30 l0 x7_1).f2.f1), .int .i64 0, .int .i64 0, .int .i64 0, .int .i64 0, .int .i64 0, .bool false, .string (⟨#[]⟩ : ByteArray)]) ?_ 5 _ rfl; (with_reducible repeat (first | refine blk_drewN ?_ _ | refine blk_drew ?_ | refine blk_alloc ?_ _)); refine blk_put (cs := #[.int .i64 ((rd_T30 l0 x7_1).f0.f0), .int .i64 ((rd_T30 l0 x7_1).f0.f1), .int .i64 ((rd_T30 l0 x7_1).f1), .int .i64 ((rd_T30 l0 x7_1).f2.f0), .int .i64 0, .int .i64 0, .int .i64 0, .int .i64 0, .int .i64 0, .int .i64 0, .bool false, .string (⟨#[]⟩ : ByteArray)]) ?_ 4 _ rfl; (with_reducible repeat (first | refine blk_drewN ?_ _ | refine blk_drew ?_ | refine blk_alloc ?_ _)); refine blk_put (cs := #[.int .i64 ((rd_T30 l0 x7_1).f0.f0), .int .i64 ((rd_T30 l0 x7_1).f0.f1), .int .i64 ((rd_T30 l0 x7_1).f1), .int .i64 0, .int .i64 0, .int .i64 0, .int .i64 0, .int .i64 0, .int .i64 0, .int .i64 0, .bool false, .string (⟨#[]⟩ : ByteArray)]) ?_ 3 _ rfl; (with_reducible repeat (first | refine blk_drewN ?_ _ | refine blk_drew ?_ | refine blk_alloc ?_ _)); refine blk_put (cs := #[.int .i64 ((rd_T30 l0 x7_1).f0.f0), .int .i64 ((rd_T30 l0 x7_1).f0.f1), .int .i64 0, .int .i64 0, .int .i64 0, .int .i64 0, .int .i64 0, .int .i64 0, .int .i64 0, .int .i64 0, .bool false, .string (⟨#[]⟩ : ByteArray)]) ?_ 2 _ rfl; (with_reducible repeat (first | refine blk_drewN ?_ _ | refine blk_drew ?_ | refine blk_alloc ?_ _)); refine blk_put (cs := #[.int .i64 ((rd_T30 l0 x7_1).f0.f0), .int .i64 0, .int .i64 0, .int .i64 0, .int .i64 0, .int .i64 0, .int .i64 0, .int .i64 0, .int .i64 0, .int .i64 0, .bool false, .string (⟨#[]⟩ : ByteArray)]) ?_ 1 _ rfl; (with_reducible repeat (first | refine blk_drewN ?_ _ | refine blk_drew ?_ | refine blk_alloc ?_ _)); refine blk_put (cs := #[.int .i64 0, .int .i64 0, .int .i64 0, .int .i64 0, .int .i64 0, .int .i64 0, .int .i64 0, .int .i64 0, .int .i64 0, .int .i64 0, .bool false, .string (⟨#[]⟩ : ByteArray)]) ?_ 0 _ rfl; (with_reducible repeat (first | refine blk_drewN ?_ _ | refine blk_drew ?_ | refine blk_alloc ?_ _)); exact BK236.out⟩
           have n1_ : Aside0 (Below w.heap.size w ((((((((((((w13.setCell ⟨gb236, 0, none⟩ (.int .i64 ((rd_T30 l0 x7_1).f0.f0))).setCell ⟨gb236, 1, none⟩ (.int .i64 ((rd_T30 l0 x7_1).f0.f1))).setCell ⟨gb236, 2, none⟩ (.int .i64 ((rd_T30 l0 x7_1).f1))).setCell ⟨gb236, 3, none⟩ (.int .i64 ((rd_T30 l0 x7_1).f2.f0))).setCell ⟨gb236, 4, none⟩ (.int .i64 ((rd_T30 l0 x7_1).f2.f1))).setCell ⟨gb236, 5, none⟩ (.int .i64 ((rd_T30 l0 x7_1).f3.f0))).setCell ⟨gb236, 6, none⟩ (.int .i64 ((rd_T30 l0 x7_1).f3.f1))).setCell ⟨gb236, 7, none⟩ (.int .i64 ((rd_T30 l0 x7_1).f4.f0))).setCell ⟨gb236, 8, none⟩ (.int .i64 ((rd_T30 l0 x7_1).f4.f1))).setCell ⟨gb236, 9, none⟩ (.int .i64 ((rd_T30 l0 x7_1).f5))).setCell ⟨gb236, 10, none⟩ (.bool ((rd_T30 l0 x7_1).f6))).setCell ⟨gb236, 11, none⟩ (.string ((rd_T30 l0 x7_1).f7)))) := ⟨by repeat (first | (with_reducible first | exact HB.out | apply below_alloc | apply pw_below_drewN | apply below_drew1 | refine below_set ?_ GE236.out) | exact HB.out)⟩
           (try clear BK236)
           (try clear HB)
           generalize ((((((((((((w13.setCell ⟨gb236, 0, none⟩ (.int .i64 ((rd_T30 l0 x7_1).f0.f0))).setCell ⟨gb236, 1, none⟩ (.int .i64 ((rd_T30 l0 x7_1).f0.f1))).setCell ⟨gb236, 2, none⟩ (.int .i64 ((rd_T30 l0 x7_1).f1))).setCell ⟨gb236, 3, none⟩ (.int .i64 ((rd_T30 l0 x7_1).f2.f0))).setCell ⟨gb236, 4, none⟩ (.int .i64 ((rd_T30 l0 x7_1).f2.f1))).setCell ⟨gb236, 5, none⟩ (.int .i64 ((rd_T30 l0 x7_1).f3.f0))).setCell ⟨gb236, 6, none⟩ (.int .i64 ((rd_T30 l0 x7_1).f3.f1))).setCell ⟨gb236, 7, none⟩ (.int .i64 ((rd_T30 l0 x7_1).f4.f0))).setCell ⟨gb236, 8, none⟩ (.int .i64 ((rd_T30 l0 x7_1).f4.f1))).setCell ⟨gb236, 9, none⟩ (.int .i64 ((rd_T30 l0 x7_1).f5))).setCell ⟨gb236, 10, none⟩ (.bool ((rd_T30 l0 x7_1).f6))).setCell ⟨gb236, 11, none⟩ (.string ((rd_T30 l0 x7_1).f7))) = w15 at n0_ n1_ ⊢
           have BK236 := n0_
           have HB := n1_
           clear n0_ n1_
           have n0_ := am (blk_drew BK236.out)
           have n1_ := am (below_drew1 HB.out)
           clear BK236
           clear HB
           have BK236 := n0_
           have HB := n1_
           clear n0_ n1_
           have p238 : 0 ≤ ((ji8) : Int) := of_decide_eq_true (by first | (with_reducible assumption) | assumption)
           have q238 : (ji8) < (l0.length : Int) := of_decide_eq_true (by first | (with_reducible assumption) | assumption)
           obtain ⟨ad238, e238, hx238_0, hx238_1, hx238_2, hx238_3, hx238_4, hx238_5, hx238_6, hx238_7, hx238_8, hx238_9, hx238_10, hx238_11⟩ := at_T30 HR0.out (ji8) p238 q238
           have hw238_11 := hx238_11
           have hw238_10 := hx238_10
           have hw238_9 := hx238_9
           have hw238_8 := hx238_8
           have hw238_7 := hx238_7
           have hw238_6 := hx238_6
           have hw238_5 := hx238_5
           have hw238_4 := hx238_4
           have hw238_3 := hx238_3
           have hw238_2 := hx238_2
           have hw238_1 := hx238_1
           have hw238_0 := hx238_0
           obtain rfl : ad235 = ad238 := (by injection e238)
           replace hx238_0 := cellUp HB.out hx238_0
           replace hx238_1 := cellUp HB.out hx238_1
           replace hx238_2 := cellUp HB.out hx238_2
           replace hx238_3 := cellUp HB.out hx238_3
           replace hx238_4 := cellUp HB.out hx238_4
           replace hx238_5 := cellUp HB.out hx238_5
           replace hx238_6 := cellUp HB.out hx238_6
           replace hx238_7 := cellUp HB.out hx238_7
           replace hx238_8 := cellUp HB.out hx238_8
           replace hx238_9 := cellUp HB.out hx238_9
           replace hx238_10 := cellUp HB.out hx238_10
           replace hx238_11 := cellUp HB.out hx238_11
           replace p238 := eq_true p238
           replace q238 := eq_true q238
           refine start_ (n := 19) (S := fun w' => w'.cell? ⟨gb236, 0, none⟩ = some (.int .i64 ((rd_T30 l0 x7_1).f0.f0)) ∧ w'.cell? ⟨gb236, 1, none⟩ = some (.int .i64 ((rd_T30 l0 x7_1).f0.f1)) ∧ w'.cell? ⟨gb236, 2, none⟩ = some (.int .i64 ((rd_T30 l0 x7_1).f1)) ∧ w'.cell? ⟨gb236, 3, none⟩ = some (.int .i64 ((rd_T30 l0 x7_1).f2.f0)) ∧ w'.cell? ⟨gb236, 4, none⟩ = some (.int .i64 ((rd_T30 l0 x7_1).f2.f1)) ∧ w'.cell? ⟨gb236, 5, none⟩ = some (.int .i64 ((rd_T30 l0 x7_1).f3.f0)) ∧ w'.cell? ⟨gb236, 6, none⟩ = some (.int .i64 ((rd_T30 l0 x7_1).f3.f1)) ∧ w'.cell? ⟨gb236, 7, none⟩ = some (.int .i64 ((rd_T30 l0 x7_1).f4.f0)) ∧ w'.cell? ⟨gb236, 8, none⟩ = some (.int .i64 ((rd_T30 l0 x7_1).f4.f1)) ∧ w'.cell? ⟨gb236, 9, none⟩ = some (.int .i64 ((rd_T30 l0 x7_1).f5)) ∧ w'.cell? ⟨gb236, 10, none⟩ = some (.bool ((rd_T30 l0 x7_1).f6)) ∧ w'.cell? ⟨gb236, 11, none⟩ = some (.string ((rd_T30 l0 x7_1).f7)) ∧ w'.cell? (ad235.add (((ji8)).toNat * 12)) = some (.int .i64 ((rd_T30 l0 (ji8)).f0.f0)) ∧ w'.cell? ⟨(ad235.add (((ji8)).toNat * 12)).block, (ad235.add (((ji8)).toNat * 12)).off + 1, none⟩ = some (.int .i64 ((rd_T30 l0 (ji8)).f0.f1)) ∧ w'.cell? ⟨(ad235.add (((ji8)).toNat * 12)).block, (ad235.add (((ji8)).toNat * 12)).off + 2, none⟩ = some (.int .i64 ((rd_T30 l0 (ji8)).f1)) ∧ w'.cell? ⟨(ad235.add (((ji8)).toNat * 12)).block, (ad235.add (((ji8)).toNat * 12)).off + 3, none⟩ = some (.int .i64 ((rd_T30 l0 (ji8)).f2.f0)) ∧ w'.cell? ⟨(ad235.add (((ji8)).toNat * 12)).block, (ad235.add (((ji8)).toNat * 12)).off + 4, none⟩ = some (.int .i64 ((rd_T30 l0 (ji8)).f2.f1)) ∧ w'.cell? ⟨(ad235.add (((ji8)).toNat * 12)).block, (ad235.add (((ji8)).toNat * 12)).off + 5, none⟩ = some (.int .i64 ((rd_T30 l0 (ji8)).f3.f0)) ∧ w'.cell? ⟨(ad235.add (((ji8)).toNat * 12)).block, (ad235.add (((ji8)).toNat * 12)).off + 6, none⟩ = some (.int .i64 ((rd_T30 l0 (ji8)).f3.f1)) ∧ w'.cell? ⟨(ad235.add (((ji8)).toNat * 12)).block, (ad235.add (((ji8)).toNat * 12)).off + 7, none⟩ = some (.int .i64 ((rd_T30 l0 (ji8)).f4.f0)) ∧ w'.cell? ⟨(ad235.add (((ji8)).toNat * 12)).block, (ad235.add (((ji8)).toNat * 12)).off + 8, none⟩ = some (.int .i64 ((rd_T30 l0 (ji8)).f4.f1)) ∧ w'.cell? ⟨(ad235.add (((ji8)).toNat * 12)).block, (ad235.add (((ji8)).toNat * 12)).off + 9, none⟩ = some (.int .i64 ((rd_T30 l0 (ji8)).f5)) ∧ w'.cell? ⟨(ad235.add (((ji8)).toNat * 12)).block, (ad235.add (((ji8)).toNat * 12)).off + 10, none⟩ = some (.bool ((rd_T30 l0 (ji8)).f6)) ∧ w'.cell? ⟨(ad235.add (((ji8)).toNat * 12)).block, (ad235.add (((ji8)).toNat * 12)).off + 11, none⟩ = some (.string ((rd_T30 l0 (ji8)).f7))) (ds := []) qx18_0 (by kernel_rfl) rfl rfl ⟨(blk_cell BK236.out 0).trans rfl, (blk_cell BK236.out 1).trans rfl, (blk_cell BK236.out 2).trans rfl, (blk_cell BK236.out 3).trans rfl, (blk_cell BK236.out 4).trans rfl, (blk_cell BK236.out 5).trans rfl, (blk_cell BK236.out 6).trans rfl, (blk_cell BK236.out 7).trans rfl, (blk_cell BK236.out 8).trans rfl, (blk_cell BK236.out 9).trans rfl, (blk_cell BK236.out 10).trans rfl, (blk_cell BK236.out 11).trans rfl, ((HB.out.cell (World.block_lt_of_cell? w _ hw238_0)).trans hw238_0), ((HB.out.cell (World.block_lt_of_cell? w _ hw238_1)).trans hw238_1), ((HB.out.cell (World.block_lt_of_cell? w _ hw238_2)).trans hw238_2), ((HB.out.cell (World.block_lt_of_cell? w _ hw238_3)).trans hw238_3), ((HB.out.cell (World.block_lt_of_cell? w _ hw238_4)).trans hw238_4), ((HB.out.cell (World.block_lt_of_cell? w _ hw238_5)).trans hw238_5), ((HB.out.cell (World.block_lt_of_cell? w _ hw238_6)).trans hw238_6), ((HB.out.cell (World.block_lt_of_cell? w _ hw238_7)).trans hw238_7), ((HB.out.cell (World.block_lt_of_cell? w _ hw238_8)).trans hw238_8), ((HB.out.cell (World.block_lt_of_cell? w _ hw238_9)).trans hw238_9), ((HB.out.cell (World.block_lt_of_cell? w _ hw238_10)).trans hw238_10), ((HB.out.cell (World.block_lt_of_cell? w _ hw238_11)).trans hw238_11)⟩ (fun hHeld => ?_); refine with_tabW impl_ValidLog.tab4 impl_ValidLog.bits4 (fun HT_ HW_ => ?_)
           generalize w15.drew = w16 at BK236 HB hx238_0 hx238_1 hx238_10 hx238_11 hx238_2 hx238_3 hx238_4 hx238_5 hx238_6 hx238_7 hx238_8 hx238_9 hHeld ⊢
           refine take_ (i := 0) (N := some 12) (v := ?_) (a' := ?_) qx18_1 rfl rfl (take_ofW HT_.out HW_.out (by kernel_rfl)) (fun _ _ _ h => h) (Or.inl ⟨by rfl, ?_⟩) hHeld ?_ ?_
           rotate_left
           ·rintro w' ⟨s0, s1, s2, s3, s4, s5, s6, s7, s8, s9, s10, s11, s12, s13, s14, s15, s16, s17, s18, s19, s20, s21, s22, s23⟩
            go_simp
            with_reducible rfl
           rotate_left
           ·simp only [putS]
            rfl
           refine one_ (i := 1) (N := some 13) qx18_2 rfl rfl (one_of HT_.out (by kernel_rfl)) (by decide) (fun K hK => ?_)
           refine goes_ Try.func14 (by kernel_rfl) rfl #[.agg #[.int .i64 ((rd_T30 l0 x7_1).f0.f0), .int .i64 ((rd_T30 l0 x7_1).f0.f1), .int .i64 ((rd_T30 l0 x7_1).f1), .int .i64 ((rd_T30 l0 x7_1).f2.f0), .int .i64 ((rd_T30 l0 x7_1).f2.f1), .int .i64 ((rd_T30 l0 x7_1).f3.f0), .int .i64 ((rd_T30 l0 x7_1).f3.f1), .int .i64 ((rd_T30 l0 x7_1).f4.f0), .int .i64 ((rd_T30 l0 x7_1).f4.f1), .int .i64 ((rd_T30 l0 x7_1).f5), .bool ((rd_T30 l0 x7_1).f6), .string ((rd_T30 l0 x7_1).f7)]] (by rfl) rfl rfl (by (try simp only [List.map_toArray, List.map_cons, List.map_nil]); first | done | rfl | (simp only [List.length_drop, List.length_take]; rfl)) ?_
           with_reducible refine (impl_ValidOp.calls ((rd_T30 l0 x7_1).f0.f0) ((rd_T30 l0 x7_1).f0.f1) ((rd_T30 l0 x7_1).f1) ((rd_T30 l0 x7_1).f2.f0) ((rd_T30 l0 x7_1).f2.f1) ((rd_T30 l0 x7_1).f3.f0) ((rd_T30 l0 x7_1).f3.f1) ((rd_T30 l0 x7_1).f4.f0) ((rd_T30 l0 x7_1).f4.f1) ((rd_T30 l0 x7_1).f5) ((rd_T30 l0 x7_1).f6) ((rd_T30 l0 x7_1).f7) true _ A5.out).mono ?_
           rintro e w17 ⟨rfl, hb⟩
           refine ⟨_, rfl, ?_⟩
           have n0_ := am (blk_below (g := gb236) (o := .cells #[.int .i64 ((rd_T30 l0 x7_1).f0.f0), .int .i64 ((rd_T30 l0 x7_1).f0.f1), .int .i64 ((rd_T30 l0 x7_1).f1), .int .i64 ((rd_T30 l0 x7_1).f2.f0), .int .i64 ((rd_T30 l0 x7_1).f2.f1), .int .i64 ((rd_T30 l0 x7_1).f3.f0), .int .i64 ((rd_T30 l0 x7_1).f3.f1), .int .i64 ((rd_T30 l0 x7_1).f4.f0), .int .i64 ((rd_T30 l0 x7_1).f4.f1), .int .i64 ((rd_T30 l0 x7_1).f5), .bool ((rd_T30 l0 x7_1).f6), .string ((rd_T30 l0 x7_1).f7)] 30 (0, 0)) (by (with_reducible repeat (first | refine blk_drewN ?_ _ | refine blk_drew ?_ | refine blk_alloc ?_ _)); exact BK236.out) hb)
           have n1_ := am (below_step (by repeat (first | (with_reducible first | exact HB.out | apply below_alloc | apply pw_below_drewN | apply below_drew1 | refine below_set ?_ GE236.out) | exact HB.out)) hb)
           clear BK236
           clear HB
           have BK236 := n0_
           have HB := n1_
           clear n0_ n1_
           (try clear hb)
           (try clear hb2)
           (try clear hk)
           (try clear hi)
           refine hK.out _ _ ⟨(blk_cell BK236.out 0).trans rfl, (blk_cell BK236.out 1).trans rfl, (blk_cell BK236.out 2).trans rfl, (blk_cell BK236.out 3).trans rfl, (blk_cell BK236.out 4).trans rfl, (blk_cell BK236.out 5).trans rfl, (blk_cell BK236.out 6).trans rfl, (blk_cell BK236.out 7).trans rfl, (blk_cell BK236.out 8).trans rfl, (blk_cell BK236.out 9).trans rfl, (blk_cell BK236.out 10).trans rfl, (blk_cell BK236.out 11).trans rfl, ((HB.out.cell (World.block_lt_of_cell? w _ hw238_0)).trans hw238_0), ((HB.out.cell (World.block_lt_of_cell? w _ hw238_1)).trans hw238_1), ((HB.out.cell (World.block_lt_of_cell? w _ hw238_2)).trans hw238_2), ((HB.out.cell (World.block_lt_of_cell? w _ hw238_3)).trans hw238_3), ((HB.out.cell (World.block_lt_of_cell? w _ hw238_4)).trans hw238_4), ((HB.out.cell (World.block_lt_of_cell? w _ hw238_5)).trans hw238_5), ((HB.out.cell (World.block_lt_of_cell? w _ hw238_6)).trans hw238_6), ((HB.out.cell (World.block_lt_of_cell? w _ hw238_7)).trans hw238_7), ((HB.out.cell (World.block_lt_of_cell? w _ hw238_8)).trans hw238_8), ((HB.out.cell (World.block_lt_of_cell? w _ hw238_9)).trans hw238_9), ((HB.out.cell (World.block_lt_of_cell? w _ hw238_10)).trans hw238_10), ((HB.out.cell (World.block_lt_of_cell? w _ hw238_11)).trans hw238_11)⟩ (fun hHeld => ?_)
           clear hK K
           refine norm_ (a' := ?_) ?_ ?_
           rotate_left
           ·show Act.put _ (some 13) _ = _
            simp only [putS]
            rfl
           refine pure_ (i := 2) (N := some 14) (v := ?_) (a' := ?_) qx18_3 rfl rfl (any_of HT_.out (by kernel_rfl)) (fun _ _ _ h => h) (Or.inl ⟨by rfl, ?_⟩) ?_ ?_
           rotate_left
           ·intro w'
            go_simp
            with_reducible rfl
           rotate_left
           ·simp only [putS]
            rfl
           refine pure_ (i := 3) (N := some 15) (v := ?_) (a' := ?_) qx18_4 rfl rfl (any_of HT_.out (by kernel_rfl)) (fun _ _ _ h => h) (Or.inl ⟨by rfl, ?_⟩) ?_ ?_
           rotate_left
           ·intro w'
            go_simp
            with_reducible rfl
           rotate_left
           ·simp only [putS]
            rfl
           refine pure_ (i := 4) (N := some 16) (v := ?_) (a' := ?_) qx18_5 rfl rfl (any_of HT_.out (by kernel_rfl)) (fun _ _ _ h => h) (Or.inl ⟨by rfl, ?_⟩) ?_ ?_
           rotate_left
           ·intro w'
            go_simp
            with_reducible rfl
           rotate_left
           ·simp only [putS]
            rfl
           refine pure_ (i := 5) (N := some 17) (v := ?_) (a' := ?_) qx18_6 rfl rfl (any_of HT_.out (by kernel_rfl)) (fun _ _ _ h => h) (Or.inl ⟨by rfl, ?_⟩) ?_ ?_
           rotate_left
           ·intro w'
            go_simp
            with_reducible rfl
           rotate_left
           ·simp only [putS]
            rfl
           refine pure_ (i := 6) (N := some 18) (v := ?_) (a' := ?_) qx18_7 rfl rfl (any_of HT_.out (by kernel_rfl)) (fun _ _ _ h => h) (Or.inl ⟨by rfl, ?_⟩) ?_ ?_
           rotate_left
           ·intro w'
            go_simp
            with_reducible rfl
           rotate_left
           ·simp only [putS]
            rfl
           refine pure_ (i := 7) (N := some 19) (v := ?_) (a' := ?_) qx18_8 rfl rfl (any_of HT_.out (by kernel_rfl)) (fun _ _ _ h => h) (Or.inl ⟨by rfl, ?_⟩) ?_ ?_
           rotate_left
           ·intro w'
            go_simp
            with_reducible rfl
           rotate_left
           ·simp only [putS]
            rfl
           refine pure_ (i := 8) (N := some 20) (v := ?_) (a' := ?_) qx18_9 rfl rfl (any_of HT_.out (by kernel_rfl)) (fun _ _ _ h => h) (Or.inl ⟨by rfl, ?_⟩) ?_ ?_
           rotate_left
           ·intro w'
            go_simp
            with_reducible rfl
           rotate_left
           ·simp only [putS]
            rfl
           refine pure_ (i := 9) (N := some 21) (v := ?_) (a' := ?_) qx18_10 rfl rfl (any_of HT_.out (by kernel_rfl)) (fun _ _ _ h => h) (Or.inl ⟨by rfl, ?_⟩) ?_ ?_
           rotate_left
           ·intro w'
            go_simp
            with_reducible rfl
           rotate_left
           ·simp only [putS]
            rfl
           refine pure_ (i := 10) (N := some 22) (v := ?_) (a' := ?_) qx18_11 rfl rfl (any_of HT_.out (by kernel_rfl)) (fun _ _ _ h => h) (Or.inl ⟨by rfl, ?_⟩) ?_ ?_
           rotate_left
           ·intro w'
            go_simp
            with_reducible rfl
           rotate_left
           ·simp only [putS]
            rfl
           refine pure_ (i := 11) (N := some 23) (v := ?_) (a' := ?_) qx18_12 rfl rfl (any_of HT_.out (by kernel_rfl)) (fun _ _ _ h => h) (Or.inl ⟨by rfl, ?_⟩) ?_ ?_
           rotate_left
           ·intro w'
            go_simp
            with_reducible rfl
           rotate_left
           ·simp only [putS]
            rfl
           refine pure_ (i := 13) (N := some 25) (v := ?_) (a' := ?_) qx18_19 rfl rfl (any_of HT_.out (by kernel_rfl)) (fun _ _ _ h => h) (Or.inl ⟨by rfl, ?_⟩) ?_ ?_
           rotate_left
           ·intro w'
            go_simp
            with_reducible rfl
           rotate_left
           ·simp only [putS]
            rfl
           refine take_ (i := 12) (N := some 24) (v := ?_) (a' := ?_) qx18_13 rfl rfl (take_ofW HT_.out HW_.out (by kernel_rfl)) (fun _ _ _ h => h) (Or.inl ⟨by rfl, ?_⟩) hHeld ?_ ?_
           rotate_left
           ·rintro w' ⟨s0, s1, s2, s3, s4, s5, s6, s7, s8, s9, s10, s11, s12, s13, s14, s15, s16, s17, s18, s19, s20, s21, s22, s23⟩
            go_simp
            with_reducible rfl
           rotate_left
           ·simp only [putS]
            rfl
           refine take_ (i := 14) (N := some 26) (v := ?_) (a' := ?_) qx18_14 rfl rfl (take_ofW HT_.out HW_.out (by kernel_rfl)) (fun _ _ _ h => h) (Or.inl ⟨by rfl, ?_⟩) hHeld ?_ ?_
           rotate_left
           ·rintro w' ⟨s0, s1, s2, s3, s4, s5, s6, s7, s8, s9, s10, s11, s12, s13, s14, s15, s16, s17, s18, s19, s20, s21, s22, s23⟩
            go_simp
            with_reducible rfl
           rotate_left
           ·simp only [putS]
            rfl
           refine one_ (i := 15) (N := some 27) qx18_15 rfl rfl (one_of HT_.out (by kernel_rfl)) (by decide) (fun K hK => ?_)
           refine goes_ Try.func45 (by kernel_rfl) rfl #[.agg #[.int .i64 ((rd_T30 l0 (ji8)).f0.f0), .int .i64 ((rd_T30 l0 (ji8)).f0.f1)], .agg #[.int .i64 ((rd_T30 l0 x7_1).f0.f0), .int .i64 ((rd_T30 l0 x7_1).f0.f1)]] (by rfl) rfl rfl (by (try simp only [List.map_toArray, List.map_cons, List.map_nil]); first | done | (simp only [hji8]; rfl) | rfl | (simp only [List.length_drop, List.length_take]; rfl)) ?_
           with_reducible refine (impl_StampLess.calls ((rd_T30 l0 (ji8)).f0.f0) ((rd_T30 l0 (ji8)).f0.f1) ((rd_T30 l0 x7_1).f0.f0) ((rd_T30 l0 x7_1).f0.f1) true _ A11.out).mono ?_
           rintro e w18 ⟨rfl, hb⟩
           refine ⟨_, rfl, ?_⟩
           have n0_ := am (blk_below (g := gb236) (o := .cells #[.int .i64 ((rd_T30 l0 x7_1).f0.f0), .int .i64 ((rd_T30 l0 x7_1).f0.f1), .int .i64 ((rd_T30 l0 x7_1).f1), .int .i64 ((rd_T30 l0 x7_1).f2.f0), .int .i64 ((rd_T30 l0 x7_1).f2.f1), .int .i64 ((rd_T30 l0 x7_1).f3.f0), .int .i64 ((rd_T30 l0 x7_1).f3.f1), .int .i64 ((rd_T30 l0 x7_1).f4.f0), .int .i64 ((rd_T30 l0 x7_1).f4.f1), .int .i64 ((rd_T30 l0 x7_1).f5), .bool ((rd_T30 l0 x7_1).f6), .string ((rd_T30 l0 x7_1).f7)] 30 (0, 0)) (by (with_reducible repeat (first | refine blk_drewN ?_ _ | refine blk_drew ?_ | refine blk_alloc ?_ _)); exact BK236.out) hb)
           have n1_ := am (below_step (by repeat (first | (with_reducible first | exact HB.out | apply below_alloc | apply pw_below_drewN | apply below_drew1 | refine below_set ?_ GE236.out) | exact HB.out)) hb)
           clear BK236
           clear HB
           have BK236 := n0_
           have HB := n1_
           clear n0_ n1_
           (try clear hb)
           (try clear hb2)
           (try clear hk)
           (try clear hi)
           refine hK.out _ _ ⟨(blk_cell BK236.out 0).trans rfl, (blk_cell BK236.out 1).trans rfl, (blk_cell BK236.out 2).trans rfl, (blk_cell BK236.out 3).trans rfl, (blk_cell BK236.out 4).trans rfl, (blk_cell BK236.out 5).trans rfl, (blk_cell BK236.out 6).trans rfl, (blk_cell BK236.out 7).trans rfl, (blk_cell BK236.out 8).trans rfl, (blk_cell BK236.out 9).trans rfl, (blk_cell BK236.out 10).trans rfl, (blk_cell BK236.out 11).trans rfl, ((HB.out.cell (World.block_lt_of_cell? w _ hw238_0)).trans hw238_0), ((HB.out.cell (World.block_lt_of_cell? w _ hw238_1)).trans hw238_1), ((HB.out.cell (World.block_lt_of_cell? w _ hw238_2)).trans hw238_2), ((HB.out.cell (World.block_lt_of_cell? w _ hw238_3)).trans hw238_3), ((HB.out.cell (World.block_lt_of_cell? w _ hw238_4)).trans hw238_4), ((HB.out.cell (World.block_lt_of_cell? w _ hw238_5)).trans hw238_5), ((HB.out.cell (World.block_lt_of_cell? w _ hw238_6)).trans hw238_6), ((HB.out.cell (World.block_lt_of_cell? w _ hw238_7)).trans hw238_7), ((HB.out.cell (World.block_lt_of_cell? w _ hw238_8)).trans hw238_8), ((HB.out.cell (World.block_lt_of_cell? w _ hw238_9)).trans hw238_9), ((HB.out.cell (World.block_lt_of_cell? w _ hw238_10)).trans hw238_10), ((HB.out.cell (World.block_lt_of_cell? w _ hw238_11)).trans hw238_11)⟩ (fun hHeld => ?_)
           clear hK K
           refine norm_ (a' := ?_) ?_ ?_
           rotate_left
           ·show Act.put _ (some 27) _ = _
            simp only [putS]
            rfl
           refine pure_ (i := 16) (N := some 28) (v := ?_) (a' := ?_) qx18_16 rfl rfl (any_of HT_.out (by kernel_rfl)) (fun _ _ _ h => h) (Or.inl ⟨by rfl, ?_⟩) ?_ ?_
           rotate_left
           ·intro w'
            go_simp
            with_reducible rfl
           rotate_left
           ·simp only [putS]
            rfl
           refine pure_ (i := 17) (N := some 29) (v := ?_) (a' := ?_) qx18_17 rfl rfl (any_of HT_.out (by kernel_rfl)) (fun _ _ _ h => h) (Or.inl ⟨by rfl, ?_⟩) ?_ ?_
           rotate_left
           ·intro w'
            go_simp
            with_reducible rfl
           rotate_left
           ·simp only [putS]
            rfl
           refine pure_ (i := 18) (N := some 30) (v := ?_) (a' := ?_) qx18_18 rfl rfl (any_of HT_.out (by kernel_rfl)) (fun _ _ _ h => h) (Or.inl ⟨by rfl, ?_⟩) ?_ ?_
           rotate_left
           ·intro w'
            go_simp
            with_reducible rfl
           rotate_left
           ·simp only [putS]
            rfl
           refine done_ (done_of HT_.out (by kernel_rfl)) ?_
           try go_wp2
           go_roundg k1
           case measure => have := HK1.out; omega
           case rel => exact ⟨(wrap64 (x7_1 + 1)), (by first | rfl | (simp; done) | (simp [*]; done)), H', ⟨by have := HK1.out; omega⟩, ⟨by repeat (first | (with_reducible first | exact HB.out | apply below_alloc | apply pw_below_drewN | apply below_drew1 | refine below_set ?_ GE236.out) | exact HB.out)⟩⟩
          ·replace c12 := Bool.eq_false_iff.mpr c12
           subst c12
           have H1 : (some false) = some r := by rw [if_neg (show ¬ (false = true) by decide)] at H; exact H
           clear H
           have H := H1
           clear H1
           obtain rfl := Option.some.inj H
           have p235 : 0 ≤ (x7_1 : Int) := of_decide_eq_true (by first | (with_reducible assumption) | assumption)
           have q235 : x7_1 < (l0.length : Int) := of_decide_eq_true (by first | (with_reducible assumption) | assumption)
           obtain ⟨ad235, e235, hx235_0, hx235_1, hx235_2, hx235_3, hx235_4, hx235_5, hx235_6, hx235_7, hx235_8, hx235_9, hx235_10, hx235_11⟩ := at_T30 HR0.out x7_1 p235 q235
           cases e235
           replace hx235_0 := cellUp HB.out hx235_0
           replace hx235_1 := cellUp HB.out hx235_1
           replace hx235_2 := cellUp HB.out hx235_2
           replace hx235_3 := cellUp HB.out hx235_3
           replace hx235_4 := cellUp HB.out hx235_4
           replace hx235_5 := cellUp HB.out hx235_5
           replace hx235_6 := cellUp HB.out hx235_6
           replace hx235_7 := cellUp HB.out hx235_7
           replace hx235_8 := cellUp HB.out hx235_8
           replace hx235_9 := cellUp HB.out hx235_9
           replace hx235_10 := cellUp HB.out hx235_10
           replace hx235_11 := cellUp HB.out hx235_11
           replace p235 := eq_true p235
           replace q235 := eq_true q235
           try go_wp2_with (first | ((with_reducible refine gate_dst (N := 4) rfl ?_); refine box_event ?hg (N := 4) ?hd (cs := #[.int .i64 0, .int .i64 0, .int .i64 0, .int .i64 0, .int .i64 0, .int .i64 0, .int .i64 0, .int .i64 0, .int .i64 0, .int .i64 0, .bool false, .string (⟨#[]⟩ : ByteArray)]) (t := 30) ?hr ?_; (case hd => rfl); (case hg => rfl); (case hr => first | (go_simp; done) | (go_simp; rfl)); intro gb236 hg w19 hbox hb; have n0_ := am (below_step (by repeat (first | (with_reducible first | exact HB.out | apply below_alloc | apply pw_below_drewN | apply below_drew1) | exact HB.out)) hb); have n1_ := am (hbox); have n2_ := am ((by rw [hg]; exact (below_size (by repeat (first | (with_reducible first | exact HB.out | apply below_alloc | apply pw_below_drewN | apply below_drew1) | exact HB.out))) : w.heap.size ≤ gb236)); have n3_ := am ((by rw [hg]; exact (below_size (by repeat (first | (with_reducible first | exact HB.out | apply below_alloc | apply pw_below_drewN | apply below_drew1) | exact HB.out))) : w.heap.size ≤ gb236)); clear HB; have HB := n0_; have BK236 := n1_; have GW236 := n2_; have GE236 := n3_; clear n0_ n1_ n2_ n3_; clear hb hbox hg; have hcz20_0 : w19.cell? ⟨gb236, 0, none⟩ = some (.int .i64 0) := (blk_cell BK236.out 0).trans rfl; have hcz20_1 : w19.cell? ⟨gb236, 1, none⟩ = some (.int .i64 0) := (blk_cell BK236.out 1).trans rfl; have hcz20_2 : w19.cell? ⟨gb236, 2, none⟩ = some (.int .i64 0) := (blk_cell BK236.out 2).trans rfl; have hcz20_3 : w19.cell? ⟨gb236, 3, none⟩ = some (.int .i64 0) := (blk_cell BK236.out 3).trans rfl; have hcz20_4 : w19.cell? ⟨gb236, 4, none⟩ = some (.int .i64 0) := (blk_cell BK236.out 4).trans rfl; have hcz20_5 : w19.cell? ⟨gb236, 5, none⟩ = some (.int .i64 0) := (blk_cell BK236.out 5).trans rfl; have hcz20_6 : w19.cell? ⟨gb236, 6, none⟩ = some (.int .i64 0) := (blk_cell BK236.out 6).trans rfl; have hcz20_7 : w19.cell? ⟨gb236, 7, none⟩ = some (.int .i64 0) := (blk_cell BK236.out 7).trans rfl; have hcz20_8 : w19.cell? ⟨gb236, 8, none⟩ = some (.int .i64 0) := (blk_cell BK236.out 8).trans rfl; have hcz20_9 : w19.cell? ⟨gb236, 9, none⟩ = some (.int .i64 0) := (blk_cell BK236.out 9).trans rfl; have hcz20_10 : w19.cell? ⟨gb236, 10, none⟩ = some (.bool false) := (blk_cell BK236.out 10).trans rfl; have hcz20_11 : w19.cell? ⟨gb236, 11, none⟩ = some (.string (⟨#[]⟩ : ByteArray)) := (blk_cell BK236.out 11).trans rfl; have hfz20_0 := blk_frozen BK236.out 0; have hfz20_1 := blk_frozen BK236.out 1; have hfz20_2 := blk_frozen BK236.out 2; have hfz20_3 := blk_frozen BK236.out 3; have hfz20_4 := blk_frozen BK236.out 4; have hfz20_5 := blk_frozen BK236.out 5; have hfz20_6 := blk_frozen BK236.out 6; have hfz20_7 := blk_frozen BK236.out 7; have hfz20_8 := blk_frozen BK236.out 8; have hfz20_9 := blk_frozen BK236.out 9; have hfz20_10 := blk_frozen BK236.out 10; have hfz20_11 := blk_frozen BK236.out 11))
           have n0_ : Aside0 (((((((((((((w19.setCell ⟨gb236, 0, none⟩ (.int .i64 ((rd_T30 l0 x7_1).f0.f0))).setCell ⟨gb236, 1, none⟩ (.int .i64 ((rd_T30 l0 x7_1).f0.f1))).setCell ⟨gb236, 2, none⟩ (.int .i64 ((rd_T30 l0 x7_1).f1))).setCell ⟨gb236, 3, none⟩ (.int .i64 ((rd_T30 l0 x7_1).f2.f0))).setCell ⟨gb236, 4, none⟩ (.int .i64 ((rd_T30 l0 x7_1).f2.f1))).setCell ⟨gb236, 5, none⟩ (.int .i64 ((rd_T30 l0 x7_1).f3.f0))).setCell ⟨gb236, 6, none⟩ (.int .i64 ((rd_T30 l0 x7_1).f3.f1))).setCell ⟨gb236, 7, none⟩ (.int .i64 ((rd_T30 l0 x7_1).f4.f0))).setCell ⟨gb236, 8, none⟩ (.int .i64 ((rd_T30 l0 x7_1).f4.f1))).setCell ⟨gb236, 9, none⟩ (.int .i64 ((rd_T30 l0 x7_1).f5))).setCell ⟨gb236, 10, none⟩ (.bool ((rd_T30 l0 x7_1).f6))).setCell ⟨gb236, 11, none⟩ (.string ((rd_T30 l0 x7_1).f7))).heap[gb236]? = some (.cells #[.int .i64 ((rd_T30 l0 x7_1).f0.f0), .int .i64 ((rd_T30 l0 x7_1).f0.f1), .int .i64 ((rd_T30 l0 x7_1).f1), .int .i64 ((rd_T30 l0 x7_1).f2.f0), .int .i64 ((rd_T30 l0 x7_1).f2.f1), .int .i64 ((rd_T30 l0 x7_1).f3.f0), .int .i64 ((rd_T30 l0 x7_1).f3.f1), .int .i64 ((rd_T30 l0 x7_1).f4.f0), .int .i64 ((rd_T30 l0 x7_1).f4.f1), .int .i64 ((rd_T30 l0 x7_1).f5), .bool ((rd_T30 l0 x7_1).f6), .string ((rd_T30 l0 x7_1).f7)] 30 (0, 0))) := ⟨by (with_reducible repeat (first | refine blk_drewN ?_ _ | refine blk_drew ?_ | refine blk_alloc ?_ _)); refine blk_put (cs := #[.int .i64 ((rd_T30 l0 x7_1).f0.f0), .int .i64 ((rd_T30 l0 x7_1).f0.f1), .int .i64 ((rd_T30 l0 x7_1).f1), .int .i64 ((rd_T30 l0 x7_1).f2.f0), .int .i64 ((rd_T30 l0 x7_1).f2.f1), .int .i64 ((rd_T30 l0 x7_1).f3.f0), .int .i64 ((rd_T30 l0 x7_1).f3.f1), .int .i64 ((rd_T30 l0 x7_1).f4.f0), .int .i64 ((rd_T30 l0 x7_1).f4.f1), .int .i64 ((rd_T30 l0 x7_1).f5), .bool ((rd_T30 l0 x7_1).f6), .string (⟨#[]⟩ : ByteArray)]) ?_ 11 _ rfl; (with_reducible repeat (first | refine blk_drewN ?_ _ | refine blk_drew ?_ | refine blk_alloc ?_ _)); refine blk_put (cs := #[.int .i64 ((rd_T30 l0 x7_1).f0.f0), .int .i64 ((rd_T30 l0 x7_1).f0.f1), .int .i64 ((rd_T30 l0 x7_1).f1), .int .i64 ((rd_T30 l0 x7_1).f2.f0), .int .i64 ((rd_T30 l0 x7_1).f2.f1), .int .i64 ((rd_T30 l0 x7_1).f3.f0), .int .i64 ((rd_T30 l0 x7_1).f3.f1), .int .i64 ((rd_T30 l0 x7_1).f4.f0), .int .i64 ((rd_T30 l0 x7_1).f4.f1), .int .i64 ((rd_T30 l0 x7_1).f5), .bool false, .string (⟨#[]⟩ : ByteArray)]) ?_ 10 _ rfl; (with_reducible repeat (first | refine blk_drewN ?_ _ | refine blk_drew ?_ | refine blk_alloc ?_ _)); refine blk_put (cs := #[.int .i64 ((rd_T30 l0 x7_1).f0.f0), .int .i64 ((rd_T30 l0 x7_1).f0.f1), .int .i64 ((rd_T30 l0 x7_1).f1), .int .i64 ((rd_T30 l0 x7_1).f2.f0), .int .i64 ((rd_T30 l0 x7_1).f2.f1), .int .i64 ((rd_T30 l0 x7_1).f3.f0), .int .i64 ((rd_T30 l0 x7_1).f3.f1), .int .i64 ((rd_T30 l0 x7_1).f4.f0), .int .i64 ((rd_T30 l0 x7_1).f4.f1), .int .i64 0, .bool false, .string (⟨#[]⟩ : ByteArray)]) ?_ 9 _ rfl; (with_reducible repeat (first | refine blk_drewN ?_ _ | refine blk_drew ?_ | refine blk_alloc ?_ _)); refine blk_put (cs := #[.int .i64 ((rd_T30 l0 x7_1).f0.f0), .int .i64 ((rd_T30 l0 x7_1).f0.f1), .int .i64 ((rd_T30 l0 x7_1).f1), .int .i64 ((rd_T30 l0 x7_1).f2.f0), .int .i64 ((rd_T30 l0 x7_1).f2.f1), .int .i64 ((rd_T30 l0 x7_1).f3.f0), .int .i64 ((rd_T30 l0 x7_1).f3.f1), .int .i64 ((rd_T30 l0 x7_1).f4.f0), .int .i64 0, .int .i64 0, .bool false, .string (⟨#[]⟩ : ByteArray)]) ?_ 8 _ rfl; (with_reducible repeat (first | refine blk_drewN ?_ _ | refine blk_drew ?_ | refine blk_alloc ?_ _)); refine blk_put (cs := #[.int .i64 ((rd_T30 l0 x7_1).f0.f0), .int .i64 ((rd_T30 l0 x7_1).f0.f1), .int .i64 ((rd_T30 l0 x7_1).f1), .int .i64 ((rd_T30 l0 x7_1).f2.f0), .int .i64 ((rd_T30 l0 x7_1).f2.f1), .int .i64 ((rd_T30 l0 x7_1).f3.f0), .int .i64 ((rd_T30 l0 x7_1).f3.f1), .int .i64 0, .int .i64 0, .int .i64 0, .bool false, .string (⟨#[]⟩ : ByteArray)]) ?_ 7 _ rfl; (with_reducible repeat (first | refine blk_drewN ?_ _ | refine blk_drew ?_ | refine blk_alloc ?_ _)); refine blk_put (cs := #[.int .i64 ((rd_T30 l0 x7_1).f0.f0), .int .i64 ((rd_T30 l0 x7_1).f0.f1), .int .i64 ((rd_T30 l0 x7_1).f1), .int .i64 ((rd_T30 l0 x7_1).f2.f0), .int .i64 ((rd_T30 l0 x7_1).f2.f1), .int .i64 ((rd_T30 l0 x7_1).f3.f0), .int .i64 0, .int .i64 0, .int .i64 0, .int .i64 0, .bool false, .string (⟨#[]⟩ : ByteArray)]) ?_ 6 _ rfl; (with_reducible repeat (first | refine blk_drewN ?_ _ | refine blk_drew ?_ | refine blk_alloc ?_ _)); refine blk_put (cs := #[.int .i64 ((rd_T30 l0 x7_1).f0.f0), .int .i64 ((rd_T30 l0 x7_1).f0.f1), .int .i64 ((rd_T30 l0 x7_1).f1), .int .i64 ((rd_T30 l0 x7_1).f2.f0), .int .i64 ((rd_T30 l0 x7_1).f2.f1), .int .i64 0, .int .i64 0, .int .i64 0, .int .i64 0, .int .i64 0, .bool false, .string (⟨#[]⟩ : ByteArray)]) ?_ 5 _ rfl; (with_reducible repeat (first | refine blk_drewN ?_ _ | refine blk_drew ?_ | refine blk_alloc ?_ _)); refine blk_put (cs := #[.int .i64 ((rd_T30 l0 x7_1).f0.f0), .int .i64 ((rd_T30 l0 x7_1).f0.f1), .int .i64 ((rd_T30 l0 x7_1).f1), .int .i64 ((rd_T30 l0 x7_1).f2.f0), .int .i64 0, .int .i64 0, .int .i64 0, .int .i64 0, .int .i64 0, .int .i64 0, .bool false, .string (⟨#[]⟩ : ByteArray)]) ?_ 4 _ rfl; (with_reducible repeat (first | refine blk_drewN ?_ _ | refine blk_drew ?_ | refine blk_alloc ?_ _)); refine blk_put (cs := #[.int .i64 ((rd_T30 l0 x7_1).f0.f0), .int .i64 ((rd_T30 l0 x7_1).f0.f1), .int .i64 ((rd_T30 l0 x7_1).f1), .int .i64 0, .int .i64 0, .int .i64 0, .int .i64 0, .int .i64 0, .int .i64 0, .int .i64 0, .bool false, .string (⟨#[]⟩ : ByteArray)]) ?_ 3 _ rfl; (with_reducible repeat (first | refine blk_drewN ?_ _ | refine blk_drew ?_ | refine blk_alloc ?_ _)); refine blk_put (cs := #[.int .i64 ((rd_T30 l0 x7_1).f0.f0), .int .i64 ((rd_T30 l0 x7_1).f0.f1), .int .i64 0, .int .i64 0, .int .i64 0, .int .i64 0, .int .i64 0, .int .i64 0, .int .i64 0, .int .i64 0, .bool false, .string (⟨#[]⟩ : ByteArray)]) ?_ 2 _ rfl; (with_reducible repeat (first | refine blk_drewN ?_ _ | refine blk_drew ?_ | refine blk_alloc ?_ _)); refine blk_put (cs := #[.int .i64 ((rd_T30 l0 x7_1).f0.f0), .int .i64 0, .int .i64 0, .int .i64 0, .int .i64 0, .int .i64 0, .int .i64 0, .int .i64 0, .int .i64 0, .int .i64 0, .bool false, .string (⟨#[]⟩ : ByteArray)]) ?_ 1 _ rfl; (with_reducible repeat (first | refine blk_drewN ?_ _ | refine blk_drew ?_ | refine blk_alloc ?_ _)); refine blk_put (cs := #[.int .i64 0, .int .i64 0, .int .i64 0, .int .i64 0, .int .i64 0, .int .i64 0, .int .i64 0, .int .i64 0, .int .i64 0, .int .i64 0, .bool false, .string (⟨#[]⟩ : ByteArray)]) ?_ 0 _ rfl; (with_reducible repeat (first | refine blk_drewN ?_ _ | refine blk_drew ?_ | refine blk_alloc ?_ _)); exact BK236.out⟩
           have n1_ : Aside0 (Below w.heap.size w ((((((((((((w19.setCell ⟨gb236, 0, none⟩ (.int .i64 ((rd_T30 l0 x7_1).f0.f0))).setCell ⟨gb236, 1, none⟩ (.int .i64 ((rd_T30 l0 x7_1).f0.f1))).setCell ⟨gb236, 2, none⟩ (.int .i64 ((rd_T30 l0 x7_1).f1))).setCell ⟨gb236, 3, none⟩ (.int .i64 ((rd_T30 l0 x7_1).f2.f0))).setCell ⟨gb236, 4, none⟩ (.int .i64 ((rd_T30 l0 x7_1).f2.f1))).setCell ⟨gb236, 5, none⟩ (.int .i64 ((rd_T30 l0 x7_1).f3.f0))).setCell ⟨gb236, 6, none⟩ (.int .i64 ((rd_T30 l0 x7_1).f3.f1))).setCell ⟨gb236, 7, none⟩ (.int .i64 ((rd_T30 l0 x7_1).f4.f0))).setCell ⟨gb236, 8, none⟩ (.int .i64 ((rd_T30 l0 x7_1).f4.f1))).setCell ⟨gb236, 9, none⟩ (.int .i64 ((rd_T30 l0 x7_1).f5))).setCell ⟨gb236, 10, none⟩ (.bool ((rd_T30 l0 x7_1).f6))).setCell ⟨gb236, 11, none⟩ (.string ((rd_T30 l0 x7_1).f7)))) := ⟨by repeat (first | (with_reducible first | exact HB.out | apply below_alloc | apply pw_below_drewN | apply below_drew1 | refine below_set ?_ GE236.out) | exact HB.out)⟩
           (try clear BK236)
           (try clear HB)
           generalize ((((((((((((w19.setCell ⟨gb236, 0, none⟩ (.int .i64 ((rd_T30 l0 x7_1).f0.f0))).setCell ⟨gb236, 1, none⟩ (.int .i64 ((rd_T30 l0 x7_1).f0.f1))).setCell ⟨gb236, 2, none⟩ (.int .i64 ((rd_T30 l0 x7_1).f1))).setCell ⟨gb236, 3, none⟩ (.int .i64 ((rd_T30 l0 x7_1).f2.f0))).setCell ⟨gb236, 4, none⟩ (.int .i64 ((rd_T30 l0 x7_1).f2.f1))).setCell ⟨gb236, 5, none⟩ (.int .i64 ((rd_T30 l0 x7_1).f3.f0))).setCell ⟨gb236, 6, none⟩ (.int .i64 ((rd_T30 l0 x7_1).f3.f1))).setCell ⟨gb236, 7, none⟩ (.int .i64 ((rd_T30 l0 x7_1).f4.f0))).setCell ⟨gb236, 8, none⟩ (.int .i64 ((rd_T30 l0 x7_1).f4.f1))).setCell ⟨gb236, 9, none⟩ (.int .i64 ((rd_T30 l0 x7_1).f5))).setCell ⟨gb236, 10, none⟩ (.bool ((rd_T30 l0 x7_1).f6))).setCell ⟨gb236, 11, none⟩ (.string ((rd_T30 l0 x7_1).f7))) = w21 at n0_ n1_ ⊢
           have BK236 := n0_
           have HB := n1_
           clear n0_ n1_
           have n0_ := am (blk_drew BK236.out)
           have n1_ := am (below_drew1 HB.out)
           clear BK236
           clear HB
           have BK236 := n0_
           have HB := n1_
           clear n0_ n1_
           have p238 : 0 ≤ ((ji8) : Int) := of_decide_eq_true (by first | (with_reducible assumption) | assumption)
           have q238 : (ji8) < (l0.length : Int) := of_decide_eq_true (by first | (with_reducible assumption) | assumption)
           obtain ⟨ad238, e238, hx238_0, hx238_1, hx238_2, hx238_3, hx238_4, hx238_5, hx238_6, hx238_7, hx238_8, hx238_9, hx238_10, hx238_11⟩ := at_T30 HR0.out (ji8) p238 q238
           have hw238_11 := hx238_11
           have hw238_10 := hx238_10
           have hw238_9 := hx238_9
           have hw238_8 := hx238_8
           have hw238_7 := hx238_7
           have hw238_6 := hx238_6
           have hw238_5 := hx238_5
           have hw238_4 := hx238_4
           have hw238_3 := hx238_3
           have hw238_2 := hx238_2
           have hw238_1 := hx238_1
           have hw238_0 := hx238_0
           obtain rfl : ad235 = ad238 := (by injection e238)
           replace hx238_0 := cellUp HB.out hx238_0
           replace hx238_1 := cellUp HB.out hx238_1
           replace hx238_2 := cellUp HB.out hx238_2
           replace hx238_3 := cellUp HB.out hx238_3
           replace hx238_4 := cellUp HB.out hx238_4
           replace hx238_5 := cellUp HB.out hx238_5
           replace hx238_6 := cellUp HB.out hx238_6
           replace hx238_7 := cellUp HB.out hx238_7
           replace hx238_8 := cellUp HB.out hx238_8
           replace hx238_9 := cellUp HB.out hx238_9
           replace hx238_10 := cellUp HB.out hx238_10
           replace hx238_11 := cellUp HB.out hx238_11
           replace p238 := eq_true p238
           replace q238 := eq_true q238
           refine start_ (n := 19) (S := fun w' => w'.cell? ⟨gb236, 0, none⟩ = some (.int .i64 ((rd_T30 l0 x7_1).f0.f0)) ∧ w'.cell? ⟨gb236, 1, none⟩ = some (.int .i64 ((rd_T30 l0 x7_1).f0.f1)) ∧ w'.cell? ⟨gb236, 2, none⟩ = some (.int .i64 ((rd_T30 l0 x7_1).f1)) ∧ w'.cell? ⟨gb236, 3, none⟩ = some (.int .i64 ((rd_T30 l0 x7_1).f2.f0)) ∧ w'.cell? ⟨gb236, 4, none⟩ = some (.int .i64 ((rd_T30 l0 x7_1).f2.f1)) ∧ w'.cell? ⟨gb236, 5, none⟩ = some (.int .i64 ((rd_T30 l0 x7_1).f3.f0)) ∧ w'.cell? ⟨gb236, 6, none⟩ = some (.int .i64 ((rd_T30 l0 x7_1).f3.f1)) ∧ w'.cell? ⟨gb236, 7, none⟩ = some (.int .i64 ((rd_T30 l0 x7_1).f4.f0)) ∧ w'.cell? ⟨gb236, 8, none⟩ = some (.int .i64 ((rd_T30 l0 x7_1).f4.f1)) ∧ w'.cell? ⟨gb236, 9, none⟩ = some (.int .i64 ((rd_T30 l0 x7_1).f5)) ∧ w'.cell? ⟨gb236, 10, none⟩ = some (.bool ((rd_T30 l0 x7_1).f6)) ∧ w'.cell? ⟨gb236, 11, none⟩ = some (.string ((rd_T30 l0 x7_1).f7)) ∧ w'.cell? (ad235.add (((ji8)).toNat * 12)) = some (.int .i64 ((rd_T30 l0 (ji8)).f0.f0)) ∧ w'.cell? ⟨(ad235.add (((ji8)).toNat * 12)).block, (ad235.add (((ji8)).toNat * 12)).off + 1, none⟩ = some (.int .i64 ((rd_T30 l0 (ji8)).f0.f1)) ∧ w'.cell? ⟨(ad235.add (((ji8)).toNat * 12)).block, (ad235.add (((ji8)).toNat * 12)).off + 2, none⟩ = some (.int .i64 ((rd_T30 l0 (ji8)).f1)) ∧ w'.cell? ⟨(ad235.add (((ji8)).toNat * 12)).block, (ad235.add (((ji8)).toNat * 12)).off + 3, none⟩ = some (.int .i64 ((rd_T30 l0 (ji8)).f2.f0)) ∧ w'.cell? ⟨(ad235.add (((ji8)).toNat * 12)).block, (ad235.add (((ji8)).toNat * 12)).off + 4, none⟩ = some (.int .i64 ((rd_T30 l0 (ji8)).f2.f1)) ∧ w'.cell? ⟨(ad235.add (((ji8)).toNat * 12)).block, (ad235.add (((ji8)).toNat * 12)).off + 5, none⟩ = some (.int .i64 ((rd_T30 l0 (ji8)).f3.f0)) ∧ w'.cell? ⟨(ad235.add (((ji8)).toNat * 12)).block, (ad235.add (((ji8)).toNat * 12)).off + 6, none⟩ = some (.int .i64 ((rd_T30 l0 (ji8)).f3.f1)) ∧ w'.cell? ⟨(ad235.add (((ji8)).toNat * 12)).block, (ad235.add (((ji8)).toNat * 12)).off + 7, none⟩ = some (.int .i64 ((rd_T30 l0 (ji8)).f4.f0)) ∧ w'.cell? ⟨(ad235.add (((ji8)).toNat * 12)).block, (ad235.add (((ji8)).toNat * 12)).off + 8, none⟩ = some (.int .i64 ((rd_T30 l0 (ji8)).f4.f1)) ∧ w'.cell? ⟨(ad235.add (((ji8)).toNat * 12)).block, (ad235.add (((ji8)).toNat * 12)).off + 9, none⟩ = some (.int .i64 ((rd_T30 l0 (ji8)).f5)) ∧ w'.cell? ⟨(ad235.add (((ji8)).toNat * 12)).block, (ad235.add (((ji8)).toNat * 12)).off + 10, none⟩ = some (.bool ((rd_T30 l0 (ji8)).f6)) ∧ w'.cell? ⟨(ad235.add (((ji8)).toNat * 12)).block, (ad235.add (((ji8)).toNat * 12)).off + 11, none⟩ = some (.string ((rd_T30 l0 (ji8)).f7))) (ds := []) qx18_0 (by kernel_rfl) rfl rfl ⟨(blk_cell BK236.out 0).trans rfl, (blk_cell BK236.out 1).trans rfl, (blk_cell BK236.out 2).trans rfl, (blk_cell BK236.out 3).trans rfl, (blk_cell BK236.out 4).trans rfl, (blk_cell BK236.out 5).trans rfl, (blk_cell BK236.out 6).trans rfl, (blk_cell BK236.out 7).trans rfl, (blk_cell BK236.out 8).trans rfl, (blk_cell BK236.out 9).trans rfl, (blk_cell BK236.out 10).trans rfl, (blk_cell BK236.out 11).trans rfl, ((HB.out.cell (World.block_lt_of_cell? w _ hw238_0)).trans hw238_0), ((HB.out.cell (World.block_lt_of_cell? w _ hw238_1)).trans hw238_1), ((HB.out.cell (World.block_lt_of_cell? w _ hw238_2)).trans hw238_2), ((HB.out.cell (World.block_lt_of_cell? w _ hw238_3)).trans hw238_3), ((HB.out.cell (World.block_lt_of_cell? w _ hw238_4)).trans hw238_4), ((HB.out.cell (World.block_lt_of_cell? w _ hw238_5)).trans hw238_5), ((HB.out.cell (World.block_lt_of_cell? w _ hw238_6)).trans hw238_6), ((HB.out.cell (World.block_lt_of_cell? w _ hw238_7)).trans hw238_7), ((HB.out.cell (World.block_lt_of_cell? w _ hw238_8)).trans hw238_8), ((HB.out.cell (World.block_lt_of_cell? w _ hw238_9)).trans hw238_9), ((HB.out.cell (World.block_lt_of_cell? w _ hw238_10)).trans hw238_10), ((HB.out.cell (World.block_lt_of_cell? w _ hw238_11)).trans hw238_11)⟩ (fun hHeld => ?_); refine with_tabW impl_ValidLog.tab4 impl_ValidLog.bits4 (fun HT_ HW_ => ?_)
           generalize w21.drew = w22 at BK236 HB hx238_0 hx238_1 hx238_10 hx238_11 hx238_2 hx238_3 hx238_4 hx238_5 hx238_6 hx238_7 hx238_8 hx238_9 hHeld ⊢
           refine take_ (i := 0) (N := some 12) (v := ?_) (a' := ?_) qx18_1 rfl rfl (take_ofW HT_.out HW_.out (by kernel_rfl)) (fun _ _ _ h => h) (Or.inl ⟨by rfl, ?_⟩) hHeld ?_ ?_
           rotate_left
           ·rintro w' ⟨s0, s1, s2, s3, s4, s5, s6, s7, s8, s9, s10, s11, s12, s13, s14, s15, s16, s17, s18, s19, s20, s21, s22, s23⟩
            go_simp
            with_reducible rfl
           rotate_left
           ·simp only [putS]
            rfl
           refine one_ (i := 1) (N := some 13) qx18_2 rfl rfl (one_of HT_.out (by kernel_rfl)) (by decide) (fun K hK => ?_)
           refine goes_ Try.func14 (by kernel_rfl) rfl #[.agg #[.int .i64 ((rd_T30 l0 x7_1).f0.f0), .int .i64 ((rd_T30 l0 x7_1).f0.f1), .int .i64 ((rd_T30 l0 x7_1).f1), .int .i64 ((rd_T30 l0 x7_1).f2.f0), .int .i64 ((rd_T30 l0 x7_1).f2.f1), .int .i64 ((rd_T30 l0 x7_1).f3.f0), .int .i64 ((rd_T30 l0 x7_1).f3.f1), .int .i64 ((rd_T30 l0 x7_1).f4.f0), .int .i64 ((rd_T30 l0 x7_1).f4.f1), .int .i64 ((rd_T30 l0 x7_1).f5), .bool ((rd_T30 l0 x7_1).f6), .string ((rd_T30 l0 x7_1).f7)]] (by rfl) rfl rfl (by (try simp only [List.map_toArray, List.map_cons, List.map_nil]); first | done | rfl | (simp only [List.length_drop, List.length_take]; rfl)) ?_
           with_reducible refine (impl_ValidOp.calls ((rd_T30 l0 x7_1).f0.f0) ((rd_T30 l0 x7_1).f0.f1) ((rd_T30 l0 x7_1).f1) ((rd_T30 l0 x7_1).f2.f0) ((rd_T30 l0 x7_1).f2.f1) ((rd_T30 l0 x7_1).f3.f0) ((rd_T30 l0 x7_1).f3.f1) ((rd_T30 l0 x7_1).f4.f0) ((rd_T30 l0 x7_1).f4.f1) ((rd_T30 l0 x7_1).f5) ((rd_T30 l0 x7_1).f6) ((rd_T30 l0 x7_1).f7) true _ A5.out).mono ?_
           rintro e w23 ⟨rfl, hb⟩
           refine ⟨_, rfl, ?_⟩
           have n0_ := am (blk_below (g := gb236) (o := .cells #[.int .i64 ((rd_T30 l0 x7_1).f0.f0), .int .i64 ((rd_T30 l0 x7_1).f0.f1), .int .i64 ((rd_T30 l0 x7_1).f1), .int .i64 ((rd_T30 l0 x7_1).f2.f0), .int .i64 ((rd_T30 l0 x7_1).f2.f1), .int .i64 ((rd_T30 l0 x7_1).f3.f0), .int .i64 ((rd_T30 l0 x7_1).f3.f1), .int .i64 ((rd_T30 l0 x7_1).f4.f0), .int .i64 ((rd_T30 l0 x7_1).f4.f1), .int .i64 ((rd_T30 l0 x7_1).f5), .bool ((rd_T30 l0 x7_1).f6), .string ((rd_T30 l0 x7_1).f7)] 30 (0, 0)) (by (with_reducible repeat (first | refine blk_drewN ?_ _ | refine blk_drew ?_ | refine blk_alloc ?_ _)); exact BK236.out) hb)
           have n1_ := am (below_step (by repeat (first | (with_reducible first | exact HB.out | apply below_alloc | apply pw_below_drewN | apply below_drew1 | refine below_set ?_ GE236.out) | exact HB.out)) hb)
           clear BK236
           clear HB
           have BK236 := n0_
           have HB := n1_
           clear n0_ n1_
           (try clear hb)
           (try clear hb2)
           (try clear hk)
           (try clear hi)
           refine hK.out _ _ ⟨(blk_cell BK236.out 0).trans rfl, (blk_cell BK236.out 1).trans rfl, (blk_cell BK236.out 2).trans rfl, (blk_cell BK236.out 3).trans rfl, (blk_cell BK236.out 4).trans rfl, (blk_cell BK236.out 5).trans rfl, (blk_cell BK236.out 6).trans rfl, (blk_cell BK236.out 7).trans rfl, (blk_cell BK236.out 8).trans rfl, (blk_cell BK236.out 9).trans rfl, (blk_cell BK236.out 10).trans rfl, (blk_cell BK236.out 11).trans rfl, ((HB.out.cell (World.block_lt_of_cell? w _ hw238_0)).trans hw238_0), ((HB.out.cell (World.block_lt_of_cell? w _ hw238_1)).trans hw238_1), ((HB.out.cell (World.block_lt_of_cell? w _ hw238_2)).trans hw238_2), ((HB.out.cell (World.block_lt_of_cell? w _ hw238_3)).trans hw238_3), ((HB.out.cell (World.block_lt_of_cell? w _ hw238_4)).trans hw238_4), ((HB.out.cell (World.block_lt_of_cell? w _ hw238_5)).trans hw238_5), ((HB.out.cell (World.block_lt_of_cell? w _ hw238_6)).trans hw238_6), ((HB.out.cell (World.block_lt_of_cell? w _ hw238_7)).trans hw238_7), ((HB.out.cell (World.block_lt_of_cell? w _ hw238_8)).trans hw238_8), ((HB.out.cell (World.block_lt_of_cell? w _ hw238_9)).trans hw238_9), ((HB.out.cell (World.block_lt_of_cell? w _ hw238_10)).trans hw238_10), ((HB.out.cell (World.block_lt_of_cell? w _ hw238_11)).trans hw238_11)⟩ (fun hHeld => ?_)
           clear hK K
           refine norm_ (a' := ?_) ?_ ?_
           rotate_left
           ·show Act.put _ (some 13) _ = _
            simp only [putS]
            rfl
           refine pure_ (i := 2) (N := some 14) (v := ?_) (a' := ?_) qx18_3 rfl rfl (any_of HT_.out (by kernel_rfl)) (fun _ _ _ h => h) (Or.inl ⟨by rfl, ?_⟩) ?_ ?_
           rotate_left
           ·intro w'
            go_simp
            with_reducible rfl
           rotate_left
           ·simp only [putS]
            rfl
           refine pure_ (i := 3) (N := some 15) (v := ?_) (a' := ?_) qx18_4 rfl rfl (any_of HT_.out (by kernel_rfl)) (fun _ _ _ h => h) (Or.inl ⟨by rfl, ?_⟩) ?_ ?_
           rotate_left
           ·intro w'
            go_simp
            with_reducible rfl
           rotate_left
           ·simp only [putS]
            rfl
           refine pure_ (i := 4) (N := some 16) (v := ?_) (a' := ?_) qx18_5 rfl rfl (any_of HT_.out (by kernel_rfl)) (fun _ _ _ h => h) (Or.inl ⟨by rfl, ?_⟩) ?_ ?_
           rotate_left
           ·intro w'
            go_simp
            with_reducible rfl
           rotate_left
           ·simp only [putS]
            rfl
           refine pure_ (i := 5) (N := some 17) (v := ?_) (a' := ?_) qx18_6 rfl rfl (any_of HT_.out (by kernel_rfl)) (fun _ _ _ h => h) (Or.inl ⟨by rfl, ?_⟩) ?_ ?_
           rotate_left
           ·intro w'
            go_simp
            with_reducible rfl
           rotate_left
           ·simp only [putS]
            rfl
           refine pure_ (i := 6) (N := some 18) (v := ?_) (a' := ?_) qx18_7 rfl rfl (any_of HT_.out (by kernel_rfl)) (fun _ _ _ h => h) (Or.inl ⟨by rfl, ?_⟩) ?_ ?_
           rotate_left
           ·intro w'
            go_simp
            with_reducible rfl
           rotate_left
           ·simp only [putS]
            rfl
           refine pure_ (i := 7) (N := some 19) (v := ?_) (a' := ?_) qx18_8 rfl rfl (any_of HT_.out (by kernel_rfl)) (fun _ _ _ h => h) (Or.inl ⟨by rfl, ?_⟩) ?_ ?_
           rotate_left
           ·intro w'
            go_simp
            with_reducible rfl
           rotate_left
           ·simp only [putS]
            rfl
           refine pure_ (i := 8) (N := some 20) (v := ?_) (a' := ?_) qx18_9 rfl rfl (any_of HT_.out (by kernel_rfl)) (fun _ _ _ h => h) (Or.inl ⟨by rfl, ?_⟩) ?_ ?_
           rotate_left
           ·intro w'
            go_simp
            with_reducible rfl
           rotate_left
           ·simp only [putS]
            rfl
           refine pure_ (i := 9) (N := some 21) (v := ?_) (a' := ?_) qx18_10 rfl rfl (any_of HT_.out (by kernel_rfl)) (fun _ _ _ h => h) (Or.inl ⟨by rfl, ?_⟩) ?_ ?_
           rotate_left
           ·intro w'
            go_simp
            with_reducible rfl
           rotate_left
           ·simp only [putS]
            rfl
           refine pure_ (i := 10) (N := some 22) (v := ?_) (a' := ?_) qx18_11 rfl rfl (any_of HT_.out (by kernel_rfl)) (fun _ _ _ h => h) (Or.inl ⟨by rfl, ?_⟩) ?_ ?_
           rotate_left
           ·intro w'
            go_simp
            with_reducible rfl
           rotate_left
           ·simp only [putS]
            rfl
           refine pure_ (i := 11) (N := some 23) (v := ?_) (a' := ?_) qx18_12 rfl rfl (any_of HT_.out (by kernel_rfl)) (fun _ _ _ h => h) (Or.inl ⟨by rfl, ?_⟩) ?_ ?_
           rotate_left
           ·intro w'
            go_simp
            with_reducible rfl
           rotate_left
           ·simp only [putS]
            rfl
           refine pure_ (i := 13) (N := some 25) (v := ?_) (a' := ?_) qx18_19 rfl rfl (any_of HT_.out (by kernel_rfl)) (fun _ _ _ h => h) (Or.inl ⟨by rfl, ?_⟩) ?_ ?_
           rotate_left
           ·intro w'
            go_simp
            with_reducible rfl
           rotate_left
           ·simp only [putS]
            rfl
           refine take_ (i := 12) (N := some 24) (v := ?_) (a' := ?_) qx18_13 rfl rfl (take_ofW HT_.out HW_.out (by kernel_rfl)) (fun _ _ _ h => h) (Or.inl ⟨by rfl, ?_⟩) hHeld ?_ ?_
           rotate_left
           ·rintro w' ⟨s0, s1, s2, s3, s4, s5, s6, s7, s8, s9, s10, s11, s12, s13, s14, s15, s16, s17, s18, s19, s20, s21, s22, s23⟩
            go_simp
            with_reducible rfl
           rotate_left
           ·simp only [putS]
            rfl
           refine take_ (i := 14) (N := some 26) (v := ?_) (a' := ?_) qx18_14 rfl rfl (take_ofW HT_.out HW_.out (by kernel_rfl)) (fun _ _ _ h => h) (Or.inl ⟨by rfl, ?_⟩) hHeld ?_ ?_
           rotate_left
           ·rintro w' ⟨s0, s1, s2, s3, s4, s5, s6, s7, s8, s9, s10, s11, s12, s13, s14, s15, s16, s17, s18, s19, s20, s21, s22, s23⟩
            go_simp
            with_reducible rfl
           rotate_left
           ·simp only [putS]
            rfl
           refine one_ (i := 15) (N := some 27) qx18_15 rfl rfl (one_of HT_.out (by kernel_rfl)) (by decide) (fun K hK => ?_)
           refine goes_ Try.func45 (by kernel_rfl) rfl #[.agg #[.int .i64 ((rd_T30 l0 (ji8)).f0.f0), .int .i64 ((rd_T30 l0 (ji8)).f0.f1)], .agg #[.int .i64 ((rd_T30 l0 x7_1).f0.f0), .int .i64 ((rd_T30 l0 x7_1).f0.f1)]] (by rfl) rfl rfl (by (try simp only [List.map_toArray, List.map_cons, List.map_nil]); first | done | (simp only [hji8]; rfl) | rfl | (simp only [List.length_drop, List.length_take]; rfl)) ?_
           with_reducible refine (impl_StampLess.calls ((rd_T30 l0 (ji8)).f0.f0) ((rd_T30 l0 (ji8)).f0.f1) ((rd_T30 l0 x7_1).f0.f0) ((rd_T30 l0 x7_1).f0.f1) false _ A11.out).mono ?_
           rintro e w24 ⟨rfl, hb⟩
           refine ⟨_, rfl, ?_⟩
           have n0_ := am (blk_below (g := gb236) (o := .cells #[.int .i64 ((rd_T30 l0 x7_1).f0.f0), .int .i64 ((rd_T30 l0 x7_1).f0.f1), .int .i64 ((rd_T30 l0 x7_1).f1), .int .i64 ((rd_T30 l0 x7_1).f2.f0), .int .i64 ((rd_T30 l0 x7_1).f2.f1), .int .i64 ((rd_T30 l0 x7_1).f3.f0), .int .i64 ((rd_T30 l0 x7_1).f3.f1), .int .i64 ((rd_T30 l0 x7_1).f4.f0), .int .i64 ((rd_T30 l0 x7_1).f4.f1), .int .i64 ((rd_T30 l0 x7_1).f5), .bool ((rd_T30 l0 x7_1).f6), .string ((rd_T30 l0 x7_1).f7)] 30 (0, 0)) (by (with_reducible repeat (first | refine blk_drewN ?_ _ | refine blk_drew ?_ | refine blk_alloc ?_ _)); exact BK236.out) hb)
           have n1_ := am (below_step (by repeat (first | (with_reducible first | exact HB.out | apply below_alloc | apply pw_below_drewN | apply below_drew1 | refine below_set ?_ GE236.out) | exact HB.out)) hb)
           clear BK236
           clear HB
           have BK236 := n0_
           have HB := n1_
           clear n0_ n1_
           (try clear hb)
           (try clear hb2)
           (try clear hk)
           (try clear hi)
           refine hK.out _ _ ⟨(blk_cell BK236.out 0).trans rfl, (blk_cell BK236.out 1).trans rfl, (blk_cell BK236.out 2).trans rfl, (blk_cell BK236.out 3).trans rfl, (blk_cell BK236.out 4).trans rfl, (blk_cell BK236.out 5).trans rfl, (blk_cell BK236.out 6).trans rfl, (blk_cell BK236.out 7).trans rfl, (blk_cell BK236.out 8).trans rfl, (blk_cell BK236.out 9).trans rfl, (blk_cell BK236.out 10).trans rfl, (blk_cell BK236.out 11).trans rfl, ((HB.out.cell (World.block_lt_of_cell? w _ hw238_0)).trans hw238_0), ((HB.out.cell (World.block_lt_of_cell? w _ hw238_1)).trans hw238_1), ((HB.out.cell (World.block_lt_of_cell? w _ hw238_2)).trans hw238_2), ((HB.out.cell (World.block_lt_of_cell? w _ hw238_3)).trans hw238_3), ((HB.out.cell (World.block_lt_of_cell? w _ hw238_4)).trans hw238_4), ((HB.out.cell (World.block_lt_of_cell? w _ hw238_5)).trans hw238_5), ((HB.out.cell (World.block_lt_of_cell? w _ hw238_6)).trans hw238_6), ((HB.out.cell (World.block_lt_of_cell? w _ hw238_7)).trans hw238_7), ((HB.out.cell (World.block_lt_of_cell? w _ hw238_8)).trans hw238_8), ((HB.out.cell (World.block_lt_of_cell? w _ hw238_9)).trans hw238_9), ((HB.out.cell (World.block_lt_of_cell? w _ hw238_10)).trans hw238_10), ((HB.out.cell (World.block_lt_of_cell? w _ hw238_11)).trans hw238_11)⟩ (fun hHeld => ?_)
           clear hK K
           refine norm_ (a' := ?_) ?_ ?_
           rotate_left
           ·show Act.put _ (some 27) _ = _
            simp only [putS]
            rfl
           refine pure_ (i := 16) (N := some 28) (v := ?_) (a' := ?_) qx18_16 rfl rfl (any_of HT_.out (by kernel_rfl)) (fun _ _ _ h => h) (Or.inl ⟨by rfl, ?_⟩) ?_ ?_
           rotate_left
           ·intro w'
            go_simp
            with_reducible rfl
           rotate_left
           ·simp only [putS]
            rfl
           refine pure_ (i := 17) (N := some 29) (v := ?_) (a' := ?_) qx18_17 rfl rfl (any_of HT_.out (by kernel_rfl)) (fun _ _ _ h => h) (Or.inl ⟨by rfl, ?_⟩) ?_ ?_
           rotate_left
           ·intro w'
            go_simp
            with_reducible rfl
           rotate_left
           ·simp only [putS]
            rfl
           refine pure_ (i := 18) (N := some 30) (v := ?_) (a' := ?_) qx18_18 rfl rfl (any_of HT_.out (by kernel_rfl)) (fun _ _ _ h => h) (Or.inl ⟨by rfl, ?_⟩) ?_ ?_
           rotate_left
           ·intro w'
            go_simp
            with_reducible rfl
           rotate_left
           ·simp only [putS]
            rfl
           refine done_ (done_of HT_.out (by kernel_rfl)) ?_
           try go_wp2
           go_ret
           exact ⟨by first | rfl | (simp [errW_none, errW_some] <;> rfl) | (simp only [← hji8]; first | rfl | (simp [errW_none, errW_some] <;> rfl)) | (simp [*, errW_none, errW_some] <;> rfl), by repeat (first | (with_reducible first | exact HB.out | apply below_alloc | apply pw_below_drewN | apply below_drew1 | refine below_set ?_ GE236.out) | exact HB.out)⟩
         ·rw [if_neg c10] at H
          exact absurd H (by simp)
        ·rw [if_neg c9] at H
         exact absurd H (by simp)
       ·rw [if_neg c7] at H
        have c7b0 : decide (0 < x7_1) = false := decide_eq_false c7
        clear c7
        have H' := am H
        clear H
        have p235 : 0 ≤ (x7_1 : Int) := of_decide_eq_true (by first | (with_reducible assumption) | assumption)
        have q235 : x7_1 < (l0.length : Int) := of_decide_eq_true (by first | (with_reducible assumption) | assumption)
        obtain ⟨ad235, e235, hx235_0, hx235_1, hx235_2, hx235_3, hx235_4, hx235_5, hx235_6, hx235_7, hx235_8, hx235_9, hx235_10, hx235_11⟩ := at_T30 HR0.out x7_1 p235 q235
        cases e235
        replace hx235_0 := cellUp HB.out hx235_0
        replace hx235_1 := cellUp HB.out hx235_1
        replace hx235_2 := cellUp HB.out hx235_2
        replace hx235_3 := cellUp HB.out hx235_3
        replace hx235_4 := cellUp HB.out hx235_4
        replace hx235_5 := cellUp HB.out hx235_5
        replace hx235_6 := cellUp HB.out hx235_6
        replace hx235_7 := cellUp HB.out hx235_7
        replace hx235_8 := cellUp HB.out hx235_8
        replace hx235_9 := cellUp HB.out hx235_9
        replace hx235_10 := cellUp HB.out hx235_10
        replace hx235_11 := cellUp HB.out hx235_11
        replace p235 := eq_true p235
        replace q235 := eq_true q235
        try go_wp2_with (first | ((with_reducible refine gate_dst (N := 4) rfl ?_); refine box_event ?hg (N := 4) ?hd (cs := #[.int .i64 0, .int .i64 0, .int .i64 0, .int .i64 0, .int .i64 0, .int .i64 0, .int .i64 0, .int .i64 0, .int .i64 0, .int .i64 0, .bool false, .string (⟨#[]⟩ : ByteArray)]) (t := 30) ?hr ?_; (case hd => rfl); (case hg => rfl); (case hr => first | (go_simp; done) | (go_simp; rfl)); intro gb236 hg w25 hbox hb; have n0_ := am (below_step (by repeat (first | (with_reducible first | exact HB.out | apply below_alloc | apply pw_below_drewN | apply below_drew1) | exact HB.out)) hb); have n1_ := am (hbox); have n2_ := am ((by rw [hg]; exact (below_size (by repeat (first | (with_reducible first | exact HB.out | apply below_alloc | apply pw_below_drewN | apply below_drew1) | exact HB.out))) : w.heap.size ≤ gb236)); have n3_ := am ((by rw [hg]; exact (below_size (by repeat (first | (with_reducible first | exact HB.out | apply below_alloc | apply pw_below_drewN | apply below_drew1) | exact HB.out))) : w.heap.size ≤ gb236)); clear HB; have HB := n0_; have BK236 := n1_; have GW236 := n2_; have GE236 := n3_; clear n0_ n1_ n2_ n3_; clear hb hbox hg; have hcz26_0 : w25.cell? ⟨gb236, 0, none⟩ = some (.int .i64 0) := (blk_cell BK236.out 0).trans rfl; have hcz26_1 : w25.cell? ⟨gb236, 1, none⟩ = some (.int .i64 0) := (blk_cell BK236.out 1).trans rfl; have hcz26_2 : w25.cell? ⟨gb236, 2, none⟩ = some (.int .i64 0) := (blk_cell BK236.out 2).trans rfl; have hcz26_3 : w25.cell? ⟨gb236, 3, none⟩ = some (.int .i64 0) := (blk_cell BK236.out 3).trans rfl; have hcz26_4 : w25.cell? ⟨gb236, 4, none⟩ = some (.int .i64 0) := (blk_cell BK236.out 4).trans rfl; have hcz26_5 : w25.cell? ⟨gb236, 5, none⟩ = some (.int .i64 0) := (blk_cell BK236.out 5).trans rfl; have hcz26_6 : w25.cell? ⟨gb236, 6, none⟩ = some (.int .i64 0) := (blk_cell BK236.out 6).trans rfl; have hcz26_7 : w25.cell? ⟨gb236, 7, none⟩ = some (.int .i64 0) := (blk_cell BK236.out 7).trans rfl; have hcz26_8 : w25.cell? ⟨gb236, 8, none⟩ = some (.int .i64 0) := (blk_cell BK236.out 8).trans rfl; have hcz26_9 : w25.cell? ⟨gb236, 9, none⟩ = some (.int .i64 0) := (blk_cell BK236.out 9).trans rfl; have hcz26_10 : w25.cell? ⟨gb236, 10, none⟩ = some (.bool false) := (blk_cell BK236.out 10).trans rfl; have hcz26_11 : w25.cell? ⟨gb236, 11, none⟩ = some (.string (⟨#[]⟩ : ByteArray)) := (blk_cell BK236.out 11).trans rfl; have hfz26_0 := blk_frozen BK236.out 0; have hfz26_1 := blk_frozen BK236.out 1; have hfz26_2 := blk_frozen BK236.out 2; have hfz26_3 := blk_frozen BK236.out 3; have hfz26_4 := blk_frozen BK236.out 4; have hfz26_5 := blk_frozen BK236.out 5; have hfz26_6 := blk_frozen BK236.out 6; have hfz26_7 := blk_frozen BK236.out 7; have hfz26_8 := blk_frozen BK236.out 8; have hfz26_9 := blk_frozen BK236.out 9; have hfz26_10 := blk_frozen BK236.out 10; have hfz26_11 := blk_frozen BK236.out 11))
        have n0_ : Aside0 (((((((((((((w25.setCell ⟨gb236, 0, none⟩ (.int .i64 ((rd_T30 l0 x7_1).f0.f0))).setCell ⟨gb236, 1, none⟩ (.int .i64 ((rd_T30 l0 x7_1).f0.f1))).setCell ⟨gb236, 2, none⟩ (.int .i64 ((rd_T30 l0 x7_1).f1))).setCell ⟨gb236, 3, none⟩ (.int .i64 ((rd_T30 l0 x7_1).f2.f0))).setCell ⟨gb236, 4, none⟩ (.int .i64 ((rd_T30 l0 x7_1).f2.f1))).setCell ⟨gb236, 5, none⟩ (.int .i64 ((rd_T30 l0 x7_1).f3.f0))).setCell ⟨gb236, 6, none⟩ (.int .i64 ((rd_T30 l0 x7_1).f3.f1))).setCell ⟨gb236, 7, none⟩ (.int .i64 ((rd_T30 l0 x7_1).f4.f0))).setCell ⟨gb236, 8, none⟩ (.int .i64 ((rd_T30 l0 x7_1).f4.f1))).setCell ⟨gb236, 9, none⟩ (.int .i64 ((rd_T30 l0 x7_1).f5))).setCell ⟨gb236, 10, none⟩ (.bool ((rd_T30 l0 x7_1).f6))).setCell ⟨gb236, 11, none⟩ (.string ((rd_T30 l0 x7_1).f7))).heap[gb236]? = some (.cells #[.int .i64 ((rd_T30 l0 x7_1).f0.f0), .int .i64 ((rd_T30 l0 x7_1).f0.f1), .int .i64 ((rd_T30 l0 x7_1).f1), .int .i64 ((rd_T30 l0 x7_1).f2.f0), .int .i64 ((rd_T30 l0 x7_1).f2.f1), .int .i64 ((rd_T30 l0 x7_1).f3.f0), .int .i64 ((rd_T30 l0 x7_1).f3.f1), .int .i64 ((rd_T30 l0 x7_1).f4.f0), .int .i64 ((rd_T30 l0 x7_1).f4.f1), .int .i64 ((rd_T30 l0 x7_1).f5), .bool ((rd_T30 l0 x7_1).f6), .string ((rd_T30 l0 x7_1).f7)] 30 (0, 0))) := ⟨by (with_reducible repeat (first | refine blk_drewN ?_ _ | refine blk_drew ?_ | refine blk_alloc ?_ _)); refine blk_put (cs := #[.int .i64 ((rd_T30 l0 x7_1).f0.f0), .int .i64 ((rd_T30 l0 x7_1).f0.f1), .int .i64 ((rd_T30 l0 x7_1).f1), .int .i64 ((rd_T30 l0 x7_1).f2.f0), .int .i64 ((rd_T30 l0 x7_1).f2.f1), .int .i64 ((rd_T30 l0 x7_1).f3.f0), .int .i64 ((rd_T30 l0 x7_1).f3.f1), .int .i64 ((rd_T30 l0 x7_1).f4.f0), .int .i64 ((rd_T30 l0 x7_1).f4.f1), .int .i64 ((rd_T30 l0 x7_1).f5), .bool ((rd_T30 l0 x7_1).f6), .string (⟨#[]⟩ : ByteArray)]) ?_ 11 _ rfl; (with_reducible repeat (first | refine blk_drewN ?_ _ | refine blk_drew ?_ | refine blk_alloc ?_ _)); refine blk_put (cs := #[.int .i64 ((rd_T30 l0 x7_1).f0.f0), .int .i64 ((rd_T30 l0 x7_1).f0.f1), .int .i64 ((rd_T30 l0 x7_1).f1), .int .i64 ((rd_T30 l0 x7_1).f2.f0), .int .i64 ((rd_T30 l0 x7_1).f2.f1), .int .i64 ((rd_T30 l0 x7_1).f3.f0), .int .i64 ((rd_T30 l0 x7_1).f3.f1), .int .i64 ((rd_T30 l0 x7_1).f4.f0), .int .i64 ((rd_T30 l0 x7_1).f4.f1), .int .i64 ((rd_T30 l0 x7_1).f5), .bool false, .string (⟨#[]⟩ : ByteArray)]) ?_ 10 _ rfl; (with_reducible repeat (first | refine blk_drewN ?_ _ | refine blk_drew ?_ | refine blk_alloc ?_ _)); refine blk_put (cs := #[.int .i64 ((rd_T30 l0 x7_1).f0.f0), .int .i64 ((rd_T30 l0 x7_1).f0.f1), .int .i64 ((rd_T30 l0 x7_1).f1), .int .i64 ((rd_T30 l0 x7_1).f2.f0), .int .i64 ((rd_T30 l0 x7_1).f2.f1), .int .i64 ((rd_T30 l0 x7_1).f3.f0), .int .i64 ((rd_T30 l0 x7_1).f3.f1), .int .i64 ((rd_T30 l0 x7_1).f4.f0), .int .i64 ((rd_T30 l0 x7_1).f4.f1), .int .i64 0, .bool false, .string (⟨#[]⟩ : ByteArray)]) ?_ 9 _ rfl; (with_reducible repeat (first | refine blk_drewN ?_ _ | refine blk_drew ?_ | refine blk_alloc ?_ _)); refine blk_put (cs := #[.int .i64 ((rd_T30 l0 x7_1).f0.f0), .int .i64 ((rd_T30 l0 x7_1).f0.f1), .int .i64 ((rd_T30 l0 x7_1).f1), .int .i64 ((rd_T30 l0 x7_1).f2.f0), .int .i64 ((rd_T30 l0 x7_1).f2.f1), .int .i64 ((rd_T30 l0 x7_1).f3.f0), .int .i64 ((rd_T30 l0 x7_1).f3.f1), .int .i64 ((rd_T30 l0 x7_1).f4.f0), .int .i64 0, .int .i64 0, .bool false, .string (⟨#[]⟩ : ByteArray)]) ?_ 8 _ rfl; (with_reducible repeat (first | refine blk_drewN ?_ _ | refine blk_drew ?_ | refine blk_alloc ?_ _)); refine blk_put (cs := #[.int .i64 ((rd_T30 l0 x7_1).f0.f0), .int .i64 ((rd_T30 l0 x7_1).f0.f1), .int .i64 ((rd_T30 l0 x7_1).f1), .int .i64 ((rd_T30 l0 x7_1).f2.f0), .int .i64 ((rd_T30 l0 x7_1).f2.f1), .int .i64 ((rd_T30 l0 x7_1).f3.f0), .int .i64 ((rd_T30 l0 x7_1).f3.f1), .int .i64 0, .int .i64 0, .int .i64 0, .bool false, .string (⟨#[]⟩ : ByteArray)]) ?_ 7 _ rfl; (with_reducible repeat (first | refine blk_drewN ?_ _ | refine blk_drew ?_ | refine blk_alloc ?_ _)); refine blk_put (cs := #[.int .i64 ((rd_T30 l0 x7_1).f0.f0), .int .i64 ((rd_T30 l0 x7_1).f0.f1), .int .i64 ((rd_T30 l0 x7_1).f1), .int .i64 ((rd_T30 l0 x7_1).f2.f0), .int .i64 ((rd_T30 l0 x7_1).f2.f1), .int .i64 ((rd_T30 l0 x7_1).f3.f0), .int .i64 0, .int .i64 0, .int .i64 0, .int .i64 0, .bool false, .string (⟨#[]⟩ : ByteArray)]) ?_ 6 _ rfl; (with_reducible repeat (first | refine blk_drewN ?_ _ | refine blk_drew ?_ | refine blk_alloc ?_ _)); refine blk_put (cs := #[.int .i64 ((rd_T30 l0 x7_1).f0.f0), .int .i64 ((rd_T30 l0 x7_1).f0.f1), .int .i64 ((rd_T30 l0 x7_1).f1), .int .i64 ((rd_T30 l0 x7_1).f2.f0), .int .i64 ((rd_T30 l0 x7_1).f2.f1), .int .i64 0, .int .i64 0, .int .i64 0, .int .i64 0, .int .i64 0, .bool false, .string (⟨#[]⟩ : ByteArray)]) ?_ 5 _ rfl; (with_reducible repeat (first | refine blk_drewN ?_ _ | refine blk_drew ?_ | refine blk_alloc ?_ _)); refine blk_put (cs := #[.int .i64 ((rd_T30 l0 x7_1).f0.f0), .int .i64 ((rd_T30 l0 x7_1).f0.f1), .int .i64 ((rd_T30 l0 x7_1).f1), .int .i64 ((rd_T30 l0 x7_1).f2.f0), .int .i64 0, .int .i64 0, .int .i64 0, .int .i64 0, .int .i64 0, .int .i64 0, .bool false, .string (⟨#[]⟩ : ByteArray)]) ?_ 4 _ rfl; (with_reducible repeat (first | refine blk_drewN ?_ _ | refine blk_drew ?_ | refine blk_alloc ?_ _)); refine blk_put (cs := #[.int .i64 ((rd_T30 l0 x7_1).f0.f0), .int .i64 ((rd_T30 l0 x7_1).f0.f1), .int .i64 ((rd_T30 l0 x7_1).f1), .int .i64 0, .int .i64 0, .int .i64 0, .int .i64 0, .int .i64 0, .int .i64 0, .int .i64 0, .bool false, .string (⟨#[]⟩ : ByteArray)]) ?_ 3 _ rfl; (with_reducible repeat (first | refine blk_drewN ?_ _ | refine blk_drew ?_ | refine blk_alloc ?_ _)); refine blk_put (cs := #[.int .i64 ((rd_T30 l0 x7_1).f0.f0), .int .i64 ((rd_T30 l0 x7_1).f0.f1), .int .i64 0, .int .i64 0, .int .i64 0, .int .i64 0, .int .i64 0, .int .i64 0, .int .i64 0, .int .i64 0, .bool false, .string (⟨#[]⟩ : ByteArray)]) ?_ 2 _ rfl; (with_reducible repeat (first | refine blk_drewN ?_ _ | refine blk_drew ?_ | refine blk_alloc ?_ _)); refine blk_put (cs := #[.int .i64 ((rd_T30 l0 x7_1).f0.f0), .int .i64 0, .int .i64 0, .int .i64 0, .int .i64 0, .int .i64 0, .int .i64 0, .int .i64 0, .int .i64 0, .int .i64 0, .bool false, .string (⟨#[]⟩ : ByteArray)]) ?_ 1 _ rfl; (with_reducible repeat (first | refine blk_drewN ?_ _ | refine blk_drew ?_ | refine blk_alloc ?_ _)); refine blk_put (cs := #[.int .i64 0, .int .i64 0, .int .i64 0, .int .i64 0, .int .i64 0, .int .i64 0, .int .i64 0, .int .i64 0, .int .i64 0, .int .i64 0, .bool false, .string (⟨#[]⟩ : ByteArray)]) ?_ 0 _ rfl; (with_reducible repeat (first | refine blk_drewN ?_ _ | refine blk_drew ?_ | refine blk_alloc ?_ _)); exact BK236.out⟩
        have n1_ : Aside0 (Below w.heap.size w ((((((((((((w25.setCell ⟨gb236, 0, none⟩ (.int .i64 ((rd_T30 l0 x7_1).f0.f0))).setCell ⟨gb236, 1, none⟩ (.int .i64 ((rd_T30 l0 x7_1).f0.f1))).setCell ⟨gb236, 2, none⟩ (.int .i64 ((rd_T30 l0 x7_1).f1))).setCell ⟨gb236, 3, none⟩ (.int .i64 ((rd_T30 l0 x7_1).f2.f0))).setCell ⟨gb236, 4, none⟩ (.int .i64 ((rd_T30 l0 x7_1).f2.f1))).setCell ⟨gb236, 5, none⟩ (.int .i64 ((rd_T30 l0 x7_1).f3.f0))).setCell ⟨gb236, 6, none⟩ (.int .i64 ((rd_T30 l0 x7_1).f3.f1))).setCell ⟨gb236, 7, none⟩ (.int .i64 ((rd_T30 l0 x7_1).f4.f0))).setCell ⟨gb236, 8, none⟩ (.int .i64 ((rd_T30 l0 x7_1).f4.f1))).setCell ⟨gb236, 9, none⟩ (.int .i64 ((rd_T30 l0 x7_1).f5))).setCell ⟨gb236, 10, none⟩ (.bool ((rd_T30 l0 x7_1).f6))).setCell ⟨gb236, 11, none⟩ (.string ((rd_T30 l0 x7_1).f7)))) := ⟨by repeat (first | (with_reducible first | exact HB.out | apply below_alloc | apply pw_below_drewN | apply below_drew1 | refine below_set ?_ GE236.out) | exact HB.out)⟩
        (try clear BK236)
        (try clear HB)
        generalize ((((((((((((w25.setCell ⟨gb236, 0, none⟩ (.int .i64 ((rd_T30 l0 x7_1).f0.f0))).setCell ⟨gb236, 1, none⟩ (.int .i64 ((rd_T30 l0 x7_1).f0.f1))).setCell ⟨gb236, 2, none⟩ (.int .i64 ((rd_T30 l0 x7_1).f1))).setCell ⟨gb236, 3, none⟩ (.int .i64 ((rd_T30 l0 x7_1).f2.f0))).setCell ⟨gb236, 4, none⟩ (.int .i64 ((rd_T30 l0 x7_1).f2.f1))).setCell ⟨gb236, 5, none⟩ (.int .i64 ((rd_T30 l0 x7_1).f3.f0))).setCell ⟨gb236, 6, none⟩ (.int .i64 ((rd_T30 l0 x7_1).f3.f1))).setCell ⟨gb236, 7, none⟩ (.int .i64 ((rd_T30 l0 x7_1).f4.f0))).setCell ⟨gb236, 8, none⟩ (.int .i64 ((rd_T30 l0 x7_1).f4.f1))).setCell ⟨gb236, 9, none⟩ (.int .i64 ((rd_T30 l0 x7_1).f5))).setCell ⟨gb236, 10, none⟩ (.bool ((rd_T30 l0 x7_1).f6))).setCell ⟨gb236, 11, none⟩ (.string ((rd_T30 l0 x7_1).f7))) = w27 at n0_ n1_ ⊢
        have BK236 := n0_
        have HB := n1_
        clear n0_ n1_
        have n0_ := am (blk_drew BK236.out)
        have n1_ := am (below_drew1 HB.out)
        clear BK236
        clear HB
        have BK236 := n0_
        have HB := n1_
        clear n0_ n1_
        refine start_ (n := 19) (S := fun w' => w'.cell? ⟨gb236, 0, none⟩ = some (.int .i64 ((rd_T30 l0 x7_1).f0.f0)) ∧ w'.cell? ⟨gb236, 1, none⟩ = some (.int .i64 ((rd_T30 l0 x7_1).f0.f1)) ∧ w'.cell? ⟨gb236, 2, none⟩ = some (.int .i64 ((rd_T30 l0 x7_1).f1)) ∧ w'.cell? ⟨gb236, 3, none⟩ = some (.int .i64 ((rd_T30 l0 x7_1).f2.f0)) ∧ w'.cell? ⟨gb236, 4, none⟩ = some (.int .i64 ((rd_T30 l0 x7_1).f2.f1)) ∧ w'.cell? ⟨gb236, 5, none⟩ = some (.int .i64 ((rd_T30 l0 x7_1).f3.f0)) ∧ w'.cell? ⟨gb236, 6, none⟩ = some (.int .i64 ((rd_T30 l0 x7_1).f3.f1)) ∧ w'.cell? ⟨gb236, 7, none⟩ = some (.int .i64 ((rd_T30 l0 x7_1).f4.f0)) ∧ w'.cell? ⟨gb236, 8, none⟩ = some (.int .i64 ((rd_T30 l0 x7_1).f4.f1)) ∧ w'.cell? ⟨gb236, 9, none⟩ = some (.int .i64 ((rd_T30 l0 x7_1).f5)) ∧ w'.cell? ⟨gb236, 10, none⟩ = some (.bool ((rd_T30 l0 x7_1).f6)) ∧ w'.cell? ⟨gb236, 11, none⟩ = some (.string ((rd_T30 l0 x7_1).f7))) (ds := []) qx18_0 (by kernel_rfl) rfl rfl ⟨(blk_cell BK236.out 0).trans rfl, (blk_cell BK236.out 1).trans rfl, (blk_cell BK236.out 2).trans rfl, (blk_cell BK236.out 3).trans rfl, (blk_cell BK236.out 4).trans rfl, (blk_cell BK236.out 5).trans rfl, (blk_cell BK236.out 6).trans rfl, (blk_cell BK236.out 7).trans rfl, (blk_cell BK236.out 8).trans rfl, (blk_cell BK236.out 9).trans rfl, (blk_cell BK236.out 10).trans rfl, (blk_cell BK236.out 11).trans rfl⟩ (fun hHeld => ?_); refine with_tabW impl_ValidLog.tab4 impl_ValidLog.bits4 (fun HT_ HW_ => ?_)
        generalize w27.drew = w28 at BK236 HB hHeld ⊢
        refine take_ (i := 0) (N := some 12) (v := ?_) (a' := ?_) qx18_1 rfl rfl (take_ofW HT_.out HW_.out (by kernel_rfl)) (fun _ _ _ h => h) (Or.inl ⟨by rfl, ?_⟩) hHeld ?_ ?_
        rotate_left
        ·rintro w' ⟨s0, s1, s2, s3, s4, s5, s6, s7, s8, s9, s10, s11⟩
         go_simp
         with_reducible rfl
        rotate_left
        ·simp only [putS]
         rfl
        refine one_ (i := 1) (N := some 13) qx18_2 rfl rfl (one_of HT_.out (by kernel_rfl)) (by decide) (fun K hK => ?_)
        refine goes_ Try.func14 (by kernel_rfl) rfl #[.agg #[.int .i64 ((rd_T30 l0 x7_1).f0.f0), .int .i64 ((rd_T30 l0 x7_1).f0.f1), .int .i64 ((rd_T30 l0 x7_1).f1), .int .i64 ((rd_T30 l0 x7_1).f2.f0), .int .i64 ((rd_T30 l0 x7_1).f2.f1), .int .i64 ((rd_T30 l0 x7_1).f3.f0), .int .i64 ((rd_T30 l0 x7_1).f3.f1), .int .i64 ((rd_T30 l0 x7_1).f4.f0), .int .i64 ((rd_T30 l0 x7_1).f4.f1), .int .i64 ((rd_T30 l0 x7_1).f5), .bool ((rd_T30 l0 x7_1).f6), .string ((rd_T30 l0 x7_1).f7)]] (by rfl) rfl rfl (by (try simp only [List.map_toArray, List.map_cons, List.map_nil]); first | done | rfl | (simp only [List.length_drop, List.length_take]; rfl)) ?_
        with_reducible refine (impl_ValidOp.calls ((rd_T30 l0 x7_1).f0.f0) ((rd_T30 l0 x7_1).f0.f1) ((rd_T30 l0 x7_1).f1) ((rd_T30 l0 x7_1).f2.f0) ((rd_T30 l0 x7_1).f2.f1) ((rd_T30 l0 x7_1).f3.f0) ((rd_T30 l0 x7_1).f3.f1) ((rd_T30 l0 x7_1).f4.f0) ((rd_T30 l0 x7_1).f4.f1) ((rd_T30 l0 x7_1).f5) ((rd_T30 l0 x7_1).f6) ((rd_T30 l0 x7_1).f7) true _ A5.out).mono ?_
        rintro e w29 ⟨rfl, hb⟩
        refine ⟨_, rfl, ?_⟩
        have n0_ := am (blk_below (g := gb236) (o := .cells #[.int .i64 ((rd_T30 l0 x7_1).f0.f0), .int .i64 ((rd_T30 l0 x7_1).f0.f1), .int .i64 ((rd_T30 l0 x7_1).f1), .int .i64 ((rd_T30 l0 x7_1).f2.f0), .int .i64 ((rd_T30 l0 x7_1).f2.f1), .int .i64 ((rd_T30 l0 x7_1).f3.f0), .int .i64 ((rd_T30 l0 x7_1).f3.f1), .int .i64 ((rd_T30 l0 x7_1).f4.f0), .int .i64 ((rd_T30 l0 x7_1).f4.f1), .int .i64 ((rd_T30 l0 x7_1).f5), .bool ((rd_T30 l0 x7_1).f6), .string ((rd_T30 l0 x7_1).f7)] 30 (0, 0)) (by (with_reducible repeat (first | refine blk_drewN ?_ _ | refine blk_drew ?_ | refine blk_alloc ?_ _)); exact BK236.out) hb)
        have n1_ := am (below_step (by repeat (first | (with_reducible first | exact HB.out | apply below_alloc | apply pw_below_drewN | apply below_drew1 | refine below_set ?_ GE236.out) | exact HB.out)) hb)
        clear BK236
        clear HB
        have BK236 := n0_
        have HB := n1_
        clear n0_ n1_
        (try clear hb)
        (try clear hb2)
        (try clear hk)
        (try clear hi)
        refine hK.out _ _ ⟨(blk_cell BK236.out 0).trans rfl, (blk_cell BK236.out 1).trans rfl, (blk_cell BK236.out 2).trans rfl, (blk_cell BK236.out 3).trans rfl, (blk_cell BK236.out 4).trans rfl, (blk_cell BK236.out 5).trans rfl, (blk_cell BK236.out 6).trans rfl, (blk_cell BK236.out 7).trans rfl, (blk_cell BK236.out 8).trans rfl, (blk_cell BK236.out 9).trans rfl, (blk_cell BK236.out 10).trans rfl, (blk_cell BK236.out 11).trans rfl⟩ (fun hHeld => ?_)
        clear hK K
        refine norm_ (a' := ?_) ?_ ?_
        rotate_left
        ·show Act.put _ (some 13) _ = _
         simp only [putS]
         rfl
        refine pure_ (i := 2) (N := some 14) (v := ?_) (a' := ?_) qx18_3 rfl rfl (any_of HT_.out (by kernel_rfl)) (fun _ _ _ h => h) (Or.inl ⟨by rfl, ?_⟩) ?_ ?_
        rotate_left
        ·intro w'
         go_simp
         with_reducible rfl
        rotate_left
        ·simp only [putS]
         rfl
        refine pure_ (i := 3) (N := some 15) (v := ?_) (a' := ?_) qx18_4 rfl rfl (any_of HT_.out (by kernel_rfl)) (fun _ _ _ h => h) (Or.inl ⟨by rfl, ?_⟩) ?_ ?_
        rotate_left
        ·intro w'
         go_simp
         with_reducible rfl
        rotate_left
        ·simp only [putS]
         rfl
        refine pure_ (i := 4) (N := some 16) (v := ?_) (a' := ?_) qx18_5 rfl rfl (any_of HT_.out (by kernel_rfl)) (fun _ _ _ h => h) (Or.inl ⟨by rfl, ?_⟩) ?_ ?_
        rotate_left
        ·intro w'
         go_simp
         with_reducible rfl
        rotate_left
        ·simp only [putS]
         rfl
        refine pure_ (i := 5) (N := some 17) (v := ?_) (a' := ?_) qx18_6 rfl rfl (any_of HT_.out (by kernel_rfl)) (fun _ _ _ h => h) (Or.inl ⟨by rfl, ?_⟩) ?_ ?_
        rotate_left
        ·intro w'
         go_simp
         with_reducible rfl
        rotate_left
        ·simp only [putS]
         rfl
        refine pure_ (i := 6) (N := some 18) (v := ?_) (a' := ?_) qx18_7 rfl rfl (any_of HT_.out (by kernel_rfl)) (fun _ _ _ h => h) (Or.inl ⟨by rfl, ?_⟩) ?_ ?_
        rotate_left
        ·intro w'
         go_simp
         with_reducible rfl
        rotate_left
        ·simp only [putS]
         rfl
        refine pure_ (i := 7) (N := some 19) (v := undef) (a' := ?_) qx18_8 rfl rfl (any_of HT_.out (by kernel_rfl)) (fun _ _ _ h => h) (Or.inr ⟨by rfl, rfl⟩) ?_ ?_
        rotate_left
        ·simp only [putS]
         rfl
        refine pure_ (i := 8) (N := some 20) (v := undef) (a' := ?_) qx18_9 rfl rfl (any_of HT_.out (by kernel_rfl)) (fun _ _ _ h => h) (Or.inr ⟨by rfl, rfl⟩) ?_ ?_
        rotate_left
        ·simp only [putS]
         rfl
        refine pure_ (i := 9) (N := some 21) (v := undef) (a' := ?_) qx18_10 rfl rfl (any_of HT_.out (by kernel_rfl)) (fun _ _ _ h => h) (Or.inr ⟨by rfl, rfl⟩) ?_ ?_
        rotate_left
        ·simp only [putS]
         rfl
        refine pure_ (i := 10) (N := some 22) (v := undef) (a' := ?_) qx18_11 rfl rfl (any_of HT_.out (by kernel_rfl)) (fun _ _ _ h => h) (Or.inr ⟨by rfl, rfl⟩) ?_ ?_
        rotate_left
        ·simp only [putS]
         rfl
        refine pure_ (i := 11) (N := some 23) (v := undef) (a' := ?_) qx18_12 rfl rfl (any_of HT_.out (by kernel_rfl)) (fun _ _ _ h => h) (Or.inr ⟨by rfl, rfl⟩) ?_ ?_
        rotate_left
        ·simp only [putS]
         rfl
        refine pure_ (i := 12) (N := some 24) (v := undef) (a' := ?_) qx18_20 rfl rfl (any_of HT_.out (by kernel_rfl)) (fun _ _ _ h => h) (Or.inr ⟨by rfl, rfl⟩) ?_ ?_
        rotate_left
        ·simp only [putS]
         rfl
        refine pure_ (i := 13) (N := some 25) (v := undef) (a' := ?_) qx18_13 rfl rfl (any_of HT_.out (by kernel_rfl)) (fun _ _ _ h => h) (Or.inr ⟨by rfl, rfl⟩) ?_ ?_
        rotate_left
        ·simp only [putS]
         rfl
        refine pure_ (i := 14) (N := some 26) (v := undef) (a' := ?_) qx18_14 rfl rfl (any_of HT_.out (by kernel_rfl)) (fun _ _ _ h => h) (Or.inr ⟨by rfl, rfl⟩) ?_ ?_
        rotate_left
        ·simp only [putS]
         rfl
        refine pure_ (i := 15) (N := some 27) (v := undef) (a' := ?_) qx18_15 rfl rfl (any_of HT_.out (by kernel_rfl)) (fun _ _ _ h => h) (Or.inr ⟨by rfl, rfl⟩) ?_ ?_
        rotate_left
        ·simp only [putS]
         rfl
        refine pure_ (i := 16) (N := some 28) (v := undef) (a' := ?_) qx18_16 rfl rfl (any_of HT_.out (by kernel_rfl)) (fun _ _ _ h => h) (Or.inr ⟨by rfl, rfl⟩) ?_ ?_
        rotate_left
        ·simp only [putS]
         rfl
        refine pure_ (i := 17) (N := some 29) (v := ?_) (a' := ?_) qx18_17 rfl rfl (any_of HT_.out (by kernel_rfl)) (fun _ _ _ h => h) (Or.inl ⟨by rfl, ?_⟩) ?_ ?_
        rotate_left
        ·intro w'
         go_simp
         with_reducible rfl
        rotate_left
        ·simp only [putS]
         rfl
        refine pure_ (i := 18) (N := some 30) (v := ?_) (a' := ?_) qx18_18 rfl rfl (any_of HT_.out (by kernel_rfl)) (fun _ _ _ h => h) (Or.inl ⟨by rfl, ?_⟩) ?_ ?_
        rotate_left
        ·intro w'
         go_simp
         with_reducible rfl
        rotate_left
        ·simp only [putS]
         rfl
        refine done_ (done_of HT_.out (by kernel_rfl)) ?_
        try go_wp2
        go_roundg k1
        case measure => have := HK1.out; omega
        case rel => exact ⟨(wrap64 (x7_1 + 1)), (by first | rfl | (simp; done) | (simp [*]; done)), H', ⟨by have := HK1.out; omega⟩, ⟨by repeat (first | (with_reducible first | exact HB.out | apply below_alloc | apply pw_below_drewN | apply below_drew1 | refine below_set ?_ GE236.out) | exact HB.out)⟩⟩
      ·replace c6 := Bool.eq_false_iff.mpr c6
       subst c6
       have H1 : (some false) = some r := by rw [if_neg (show ¬ (false = true) by decide)] at H; exact H
       clear H
       have H := H1
       clear H1
       obtain rfl := Option.some.inj H
       have p235 : 0 ≤ (x7_1 : Int) := of_decide_eq_true (by first | (with_reducible assumption) | assumption)
       have q235 : x7_1 < (l0.length : Int) := of_decide_eq_true (by first | (with_reducible assumption) | assumption)
       obtain ⟨ad235, e235, hx235_0, hx235_1, hx235_2, hx235_3, hx235_4, hx235_5, hx235_6, hx235_7, hx235_8, hx235_9, hx235_10, hx235_11⟩ := at_T30 HR0.out x7_1 p235 q235
       cases e235
       replace hx235_0 := cellUp HB.out hx235_0
       replace hx235_1 := cellUp HB.out hx235_1
       replace hx235_2 := cellUp HB.out hx235_2
       replace hx235_3 := cellUp HB.out hx235_3
       replace hx235_4 := cellUp HB.out hx235_4
       replace hx235_5 := cellUp HB.out hx235_5
       replace hx235_6 := cellUp HB.out hx235_6
       replace hx235_7 := cellUp HB.out hx235_7
       replace hx235_8 := cellUp HB.out hx235_8
       replace hx235_9 := cellUp HB.out hx235_9
       replace hx235_10 := cellUp HB.out hx235_10
       replace hx235_11 := cellUp HB.out hx235_11
       replace p235 := eq_true p235
       replace q235 := eq_true q235
       try go_wp2_with (first | ((with_reducible refine gate_dst (N := 4) rfl ?_); refine box_event ?hg (N := 4) ?hd (cs := #[.int .i64 0, .int .i64 0, .int .i64 0, .int .i64 0, .int .i64 0, .int .i64 0, .int .i64 0, .int .i64 0, .int .i64 0, .int .i64 0, .bool false, .string (⟨#[]⟩ : ByteArray)]) (t := 30) ?hr ?_; (case hd => rfl); (case hg => rfl); (case hr => first | (go_simp; done) | (go_simp; rfl)); intro gb236 hg w30 hbox hb; have n0_ := am (below_step (by repeat (first | (with_reducible first | exact HB.out | apply below_alloc | apply pw_below_drewN | apply below_drew1) | exact HB.out)) hb); have n1_ := am (hbox); have n2_ := am ((by rw [hg]; exact (below_size (by repeat (first | (with_reducible first | exact HB.out | apply below_alloc | apply pw_below_drewN | apply below_drew1) | exact HB.out))) : w.heap.size ≤ gb236)); have n3_ := am ((by rw [hg]; exact (below_size (by repeat (first | (with_reducible first | exact HB.out | apply below_alloc | apply pw_below_drewN | apply below_drew1) | exact HB.out))) : w.heap.size ≤ gb236)); clear HB; have HB := n0_; have BK236 := n1_; have GW236 := n2_; have GE236 := n3_; clear n0_ n1_ n2_ n3_; clear hb hbox hg; have hcz31_0 : w30.cell? ⟨gb236, 0, none⟩ = some (.int .i64 0) := (blk_cell BK236.out 0).trans rfl; have hcz31_1 : w30.cell? ⟨gb236, 1, none⟩ = some (.int .i64 0) := (blk_cell BK236.out 1).trans rfl; have hcz31_2 : w30.cell? ⟨gb236, 2, none⟩ = some (.int .i64 0) := (blk_cell BK236.out 2).trans rfl; have hcz31_3 : w30.cell? ⟨gb236, 3, none⟩ = some (.int .i64 0) := (blk_cell BK236.out 3).trans rfl; have hcz31_4 : w30.cell? ⟨gb236, 4, none⟩ = some (.int .i64 0) := (blk_cell BK236.out 4).trans rfl; have hcz31_5 : w30.cell? ⟨gb236, 5, none⟩ = some (.int .i64 0) := (blk_cell BK236.out 5).trans rfl; have hcz31_6 : w30.cell? ⟨gb236, 6, none⟩ = some (.int .i64 0) := (blk_cell BK236.out 6).trans rfl; have hcz31_7 : w30.cell? ⟨gb236, 7, none⟩ = some (.int .i64 0) := (blk_cell BK236.out 7).trans rfl; have hcz31_8 : w30.cell? ⟨gb236, 8, none⟩ = some (.int .i64 0) := (blk_cell BK236.out 8).trans rfl; have hcz31_9 : w30.cell? ⟨gb236, 9, none⟩ = some (.int .i64 0) := (blk_cell BK236.out 9).trans rfl; have hcz31_10 : w30.cell? ⟨gb236, 10, none⟩ = some (.bool false) := (blk_cell BK236.out 10).trans rfl; have hcz31_11 : w30.cell? ⟨gb236, 11, none⟩ = some (.string (⟨#[]⟩ : ByteArray)) := (blk_cell BK236.out 11).trans rfl; have hfz31_0 := blk_frozen BK236.out 0; have hfz31_1 := blk_frozen BK236.out 1; have hfz31_2 := blk_frozen BK236.out 2; have hfz31_3 := blk_frozen BK236.out 3; have hfz31_4 := blk_frozen BK236.out 4; have hfz31_5 := blk_frozen BK236.out 5; have hfz31_6 := blk_frozen BK236.out 6; have hfz31_7 := blk_frozen BK236.out 7; have hfz31_8 := blk_frozen BK236.out 8; have hfz31_9 := blk_frozen BK236.out 9; have hfz31_10 := blk_frozen BK236.out 10; have hfz31_11 := blk_frozen BK236.out 11))
       have n0_ : Aside0 (((((((((((((w30.setCell ⟨gb236, 0, none⟩ (.int .i64 ((rd_T30 l0 x7_1).f0.f0))).setCell ⟨gb236, 1, none⟩ (.int .i64 ((rd_T30 l0 x7_1).f0.f1))).setCell ⟨gb236, 2, none⟩ (.int .i64 ((rd_T30 l0 x7_1).f1))).setCell ⟨gb236, 3, none⟩ (.int .i64 ((rd_T30 l0 x7_1).f2.f0))).setCell ⟨gb236, 4, none⟩ (.int .i64 ((rd_T30 l0 x7_1).f2.f1))).setCell ⟨gb236, 5, none⟩ (.int .i64 ((rd_T30 l0 x7_1).f3.f0))).setCell ⟨gb236, 6, none⟩ (.int .i64 ((rd_T30 l0 x7_1).f3.f1))).setCell ⟨gb236, 7, none⟩ (.int .i64 ((rd_T30 l0 x7_1).f4.f0))).setCell ⟨gb236, 8, none⟩ (.int .i64 ((rd_T30 l0 x7_1).f4.f1))).setCell ⟨gb236, 9, none⟩ (.int .i64 ((rd_T30 l0 x7_1).f5))).setCell ⟨gb236, 10, none⟩ (.bool ((rd_T30 l0 x7_1).f6))).setCell ⟨gb236, 11, none⟩ (.string ((rd_T30 l0 x7_1).f7))).heap[gb236]? = some (.cells #[.int .i64 ((rd_T30 l0 x7_1).f0.f0), .int .i64 ((rd_T30 l0 x7_1).f0.f1), .int .i64 ((rd_T30 l0 x7_1).f1), .int .i64 ((rd_T30 l0 x7_1).f2.f0), .int .i64 ((rd_T30 l0 x7_1).f2.f1), .int .i64 ((rd_T30 l0 x7_1).f3.f0), .int .i64 ((rd_T30 l0 x7_1).f3.f1), .int .i64 ((rd_T30 l0 x7_1).f4.f0), .int .i64 ((rd_T30 l0 x7_1).f4.f1), .int .i64 ((rd_T30 l0 x7_1).f5), .bool ((rd_T30 l0 x7_1).f6), .string ((rd_T30 l0 x7_1).f7)] 30 (0, 0))) := ⟨by (with_reducible repeat (first | refine blk_drewN ?_ _ | refine blk_drew ?_ | refine blk_alloc ?_ _)); refine blk_put (cs := #[.int .i64 ((rd_T30 l0 x7_1).f0.f0), .int .i64 ((rd_T30 l0 x7_1).f0.f1), .int .i64 ((rd_T30 l0 x7_1).f1), .int .i64 ((rd_T30 l0 x7_1).f2.f0), .int .i64 ((rd_T30 l0 x7_1).f2.f1), .int .i64 ((rd_T30 l0 x7_1).f3.f0), .int .i64 ((rd_T30 l0 x7_1).f3.f1), .int .i64 ((rd_T30 l0 x7_1).f4.f0), .int .i64 ((rd_T30 l0 x7_1).f4.f1), .int .i64 ((rd_T30 l0 x7_1).f5), .bool ((rd_T30 l0 x7_1).f6), .string (⟨#[]⟩ : ByteArray)]) ?_ 11 _ rfl; (with_reducible repeat (first | refine blk_drewN ?_ _ | refine blk_drew ?_ | refine blk_alloc ?_ _)); refine blk_put (cs := #[.int .i64 ((rd_T30 l0 x7_1).f0.f0), .int .i64 ((rd_T30 l0 x7_1).f0.f1), .int .i64 ((rd_T30 l0 x7_1).f1), .int .i64 ((rd_T30 l0 x7_1).f2.f0), .int .i64 ((rd_T30 l0 x7_1).f2.f1), .int .i64 ((rd_T30 l0 x7_1).f3.f0), .int .i64 ((rd_T30 l0 x7_1).f3.f1), .int .i64 ((rd_T30 l0 x7_1).f4.f0), .int .i64 ((rd_T30 l0 x7_1).f4.f1), .int .i64 ((rd_T30 l0 x7_1).f5), .bool false, .string (⟨#[]⟩ : ByteArray)]) ?_ 10 _ rfl; (with_reducible repeat (first | refine blk_drewN ?_ _ | refine blk_drew ?_ | refine blk_alloc ?_ _)); refine blk_put (cs := #[.int .i64 ((rd_T30 l0 x7_1).f0.f0), .int .i64 ((rd_T30 l0 x7_1).f0.f1), .int .i64 ((rd_T30 l0 x7_1).f1), .int .i64 ((rd_T30 l0 x7_1).f2.f0), .int .i64 ((rd_T30 l0 x7_1).f2.f1), .int .i64 ((rd_T30 l0 x7_1).f3.f0), .int .i64 ((rd_T30 l0 x7_1).f3.f1), .int .i64 ((rd_T30 l0 x7_1).f4.f0), .int .i64 ((rd_T30 l0 x7_1).f4.f1), .int .i64 0, .bool false, .string (⟨#[]⟩ : ByteArray)]) ?_ 9 _ rfl; (with_reducible repeat (first | refine blk_drewN ?_ _ | refine blk_drew ?_ | refine blk_alloc ?_ _)); refine blk_put (cs := #[.int .i64 ((rd_T30 l0 x7_1).f0.f0), .int .i64 ((rd_T30 l0 x7_1).f0.f1), .int .i64 ((rd_T30 l0 x7_1).f1), .int .i64 ((rd_T30 l0 x7_1).f2.f0), .int .i64 ((rd_T30 l0 x7_1).f2.f1), .int .i64 ((rd_T30 l0 x7_1).f3.f0), .int .i64 ((rd_T30 l0 x7_1).f3.f1), .int .i64 ((rd_T30 l0 x7_1).f4.f0), .int .i64 0, .int .i64 0, .bool false, .string (⟨#[]⟩ : ByteArray)]) ?_ 8 _ rfl; (with_reducible repeat (first | refine blk_drewN ?_ _ | refine blk_drew ?_ | refine blk_alloc ?_ _)); refine blk_put (cs := #[.int .i64 ((rd_T30 l0 x7_1).f0.f0), .int .i64 ((rd_T30 l0 x7_1).f0.f1), .int .i64 ((rd_T30 l0 x7_1).f1), .int .i64 ((rd_T30 l0 x7_1).f2.f0), .int .i64 ((rd_T30 l0 x7_1).f2.f1), .int .i64 ((rd_T30 l0 x7_1).f3.f0), .int .i64 ((rd_T30 l0 x7_1).f3.f1), .int .i64 0, .int .i64 0, .int .i64 0, .bool false, .string (⟨#[]⟩ : ByteArray)]) ?_ 7 _ rfl; (with_reducible repeat (first | refine blk_drewN ?_ _ | refine blk_drew ?_ | refine blk_alloc ?_ _)); refine blk_put (cs := #[.int .i64 ((rd_T30 l0 x7_1).f0.f0), .int .i64 ((rd_T30 l0 x7_1).f0.f1), .int .i64 ((rd_T30 l0 x7_1).f1), .int .i64 ((rd_T30 l0 x7_1).f2.f0), .int .i64 ((rd_T30 l0 x7_1).f2.f1), .int .i64 ((rd_T30 l0 x7_1).f3.f0), .int .i64 0, .int .i64 0, .int .i64 0, .int .i64 0, .bool false, .string (⟨#[]⟩ : ByteArray)]) ?_ 6 _ rfl; (with_reducible repeat (first | refine blk_drewN ?_ _ | refine blk_drew ?_ | refine blk_alloc ?_ _)); refine blk_put (cs := #[.int .i64 ((rd_T30 l0 x7_1).f0.f0), .int .i64 ((rd_T30 l0 x7_1).f0.f1), .int .i64 ((rd_T30 l0 x7_1).f1), .int .i64 ((rd_T30 l0 x7_1).f2.f0), .int .i64 ((rd_T30 l0 x7_1).f2.f1), .int .i64 0, .int .i64 0, .int .i64 0, .int .i64 0, .int .i64 0, .bool false, .string (⟨#[]⟩ : ByteArray)]) ?_ 5 _ rfl; (with_reducible repeat (first | refine blk_drewN ?_ _ | refine blk_drew ?_ | refine blk_alloc ?_ _)); refine blk_put (cs := #[.int .i64 ((rd_T30 l0 x7_1).f0.f0), .int .i64 ((rd_T30 l0 x7_1).f0.f1), .int .i64 ((rd_T30 l0 x7_1).f1), .int .i64 ((rd_T30 l0 x7_1).f2.f0), .int .i64 0, .int .i64 0, .int .i64 0, .int .i64 0, .int .i64 0, .int .i64 0, .bool false, .string (⟨#[]⟩ : ByteArray)]) ?_ 4 _ rfl; (with_reducible repeat (first | refine blk_drewN ?_ _ | refine blk_drew ?_ | refine blk_alloc ?_ _)); refine blk_put (cs := #[.int .i64 ((rd_T30 l0 x7_1).f0.f0), .int .i64 ((rd_T30 l0 x7_1).f0.f1), .int .i64 ((rd_T30 l0 x7_1).f1), .int .i64 0, .int .i64 0, .int .i64 0, .int .i64 0, .int .i64 0, .int .i64 0, .int .i64 0, .bool false, .string (⟨#[]⟩ : ByteArray)]) ?_ 3 _ rfl; (with_reducible repeat (first | refine blk_drewN ?_ _ | refine blk_drew ?_ | refine blk_alloc ?_ _)); refine blk_put (cs := #[.int .i64 ((rd_T30 l0 x7_1).f0.f0), .int .i64 ((rd_T30 l0 x7_1).f0.f1), .int .i64 0, .int .i64 0, .int .i64 0, .int .i64 0, .int .i64 0, .int .i64 0, .int .i64 0, .int .i64 0, .bool false, .string (⟨#[]⟩ : ByteArray)]) ?_ 2 _ rfl; (with_reducible repeat (first | refine blk_drewN ?_ _ | refine blk_drew ?_ | refine blk_alloc ?_ _)); refine blk_put (cs := #[.int .i64 ((rd_T30 l0 x7_1).f0.f0), .int .i64 0, .int .i64 0, .int .i64 0, .int .i64 0, .int .i64 0, .int .i64 0, .int .i64 0, .int .i64 0, .int .i64 0, .bool false, .string (⟨#[]⟩ : ByteArray)]) ?_ 1 _ rfl; (with_reducible repeat (first | refine blk_drewN ?_ _ | refine blk_drew ?_ | refine blk_alloc ?_ _)); refine blk_put (cs := #[.int .i64 0, .int .i64 0, .int .i64 0, .int .i64 0, .int .i64 0, .int .i64 0, .int .i64 0, .int .i64 0, .int .i64 0, .int .i64 0, .bool false, .string (⟨#[]⟩ : ByteArray)]) ?_ 0 _ rfl; (with_reducible repeat (first | refine blk_drewN ?_ _ | refine blk_drew ?_ | refine blk_alloc ?_ _)); exact BK236.out⟩
       have n1_ : Aside0 (Below w.heap.size w ((((((((((((w30.setCell ⟨gb236, 0, none⟩ (.int .i64 ((rd_T30 l0 x7_1).f0.f0))).setCell ⟨gb236, 1, none⟩ (.int .i64 ((rd_T30 l0 x7_1).f0.f1))).setCell ⟨gb236, 2, none⟩ (.int .i64 ((rd_T30 l0 x7_1).f1))).setCell ⟨gb236, 3, none⟩ (.int .i64 ((rd_T30 l0 x7_1).f2.f0))).setCell ⟨gb236, 4, none⟩ (.int .i64 ((rd_T30 l0 x7_1).f2.f1))).setCell ⟨gb236, 5, none⟩ (.int .i64 ((rd_T30 l0 x7_1).f3.f0))).setCell ⟨gb236, 6, none⟩ (.int .i64 ((rd_T30 l0 x7_1).f3.f1))).setCell ⟨gb236, 7, none⟩ (.int .i64 ((rd_T30 l0 x7_1).f4.f0))).setCell ⟨gb236, 8, none⟩ (.int .i64 ((rd_T30 l0 x7_1).f4.f1))).setCell ⟨gb236, 9, none⟩ (.int .i64 ((rd_T30 l0 x7_1).f5))).setCell ⟨gb236, 10, none⟩ (.bool ((rd_T30 l0 x7_1).f6))).setCell ⟨gb236, 11, none⟩ (.string ((rd_T30 l0 x7_1).f7)))) := ⟨by repeat (first | (with_reducible first | exact HB.out | apply below_alloc | apply pw_below_drewN | apply below_drew1 | refine below_set ?_ GE236.out) | exact HB.out)⟩
       (try clear BK236)
       (try clear HB)
       generalize ((((((((((((w30.setCell ⟨gb236, 0, none⟩ (.int .i64 ((rd_T30 l0 x7_1).f0.f0))).setCell ⟨gb236, 1, none⟩ (.int .i64 ((rd_T30 l0 x7_1).f0.f1))).setCell ⟨gb236, 2, none⟩ (.int .i64 ((rd_T30 l0 x7_1).f1))).setCell ⟨gb236, 3, none⟩ (.int .i64 ((rd_T30 l0 x7_1).f2.f0))).setCell ⟨gb236, 4, none⟩ (.int .i64 ((rd_T30 l0 x7_1).f2.f1))).setCell ⟨gb236, 5, none⟩ (.int .i64 ((rd_T30 l0 x7_1).f3.f0))).setCell ⟨gb236, 6, none⟩ (.int .i64 ((rd_T30 l0 x7_1).f3.f1))).setCell ⟨gb236, 7, none⟩ (.int .i64 ((rd_T30 l0 x7_1).f4.f0))).setCell ⟨gb236, 8, none⟩ (.int .i64 ((rd_T30 l0 x7_1).f4.f1))).setCell ⟨gb236, 9, none⟩ (.int .i64 ((rd_T30 l0 x7_1).f5))).setCell ⟨gb236, 10, none⟩ (.bool ((rd_T30 l0 x7_1).f6))).setCell ⟨gb236, 11, none⟩ (.string ((rd_T30 l0 x7_1).f7))) = w32 at n0_ n1_ ⊢
       have BK236 := n0_
       have HB := n1_
       clear n0_ n1_
       have n0_ := am (blk_drew BK236.out)
       have n1_ := am (below_drew1 HB.out)
       clear BK236
       clear HB
       have BK236 := n0_
       have HB := n1_
       clear n0_ n1_
       refine start_ (n := 19) (S := fun w' => w'.cell? ⟨gb236, 0, none⟩ = some (.int .i64 ((rd_T30 l0 x7_1).f0.f0)) ∧ w'.cell? ⟨gb236, 1, none⟩ = some (.int .i64 ((rd_T30 l0 x7_1).f0.f1)) ∧ w'.cell? ⟨gb236, 2, none⟩ = some (.int .i64 ((rd_T30 l0 x7_1).f1)) ∧ w'.cell? ⟨gb236, 3, none⟩ = some (.int .i64 ((rd_T30 l0 x7_1).f2.f0)) ∧ w'.cell? ⟨gb236, 4, none⟩ = some (.int .i64 ((rd_T30 l0 x7_1).f2.f1)) ∧ w'.cell? ⟨gb236, 5, none⟩ = some (.int .i64 ((rd_T30 l0 x7_1).f3.f0)) ∧ w'.cell? ⟨gb236, 6, none⟩ = some (.int .i64 ((rd_T30 l0 x7_1).f3.f1)) ∧ w'.cell? ⟨gb236, 7, none⟩ = some (.int .i64 ((rd_T30 l0 x7_1).f4.f0)) ∧ w'.cell? ⟨gb236, 8, none⟩ = some (.int .i64 ((rd_T30 l0 x7_1).f4.f1)) ∧ w'.cell? ⟨gb236, 9, none⟩ = some (.int .i64 ((rd_T30 l0 x7_1).f5)) ∧ w'.cell? ⟨gb236, 10, none⟩ = some (.bool ((rd_T30 l0 x7_1).f6)) ∧ w'.cell? ⟨gb236, 11, none⟩ = some (.string ((rd_T30 l0 x7_1).f7))) (ds := []) qx18_0 (by kernel_rfl) rfl rfl ⟨(blk_cell BK236.out 0).trans rfl, (blk_cell BK236.out 1).trans rfl, (blk_cell BK236.out 2).trans rfl, (blk_cell BK236.out 3).trans rfl, (blk_cell BK236.out 4).trans rfl, (blk_cell BK236.out 5).trans rfl, (blk_cell BK236.out 6).trans rfl, (blk_cell BK236.out 7).trans rfl, (blk_cell BK236.out 8).trans rfl, (blk_cell BK236.out 9).trans rfl, (blk_cell BK236.out 10).trans rfl, (blk_cell BK236.out 11).trans rfl⟩ (fun hHeld => ?_); refine with_tabW impl_ValidLog.tab4 impl_ValidLog.bits4 (fun HT_ HW_ => ?_)
       generalize w32.drew = w33 at BK236 HB hHeld ⊢
       refine take_ (i := 0) (N := some 12) (v := ?_) (a' := ?_) qx18_1 rfl rfl (take_ofW HT_.out HW_.out (by kernel_rfl)) (fun _ _ _ h => h) (Or.inl ⟨by rfl, ?_⟩) hHeld ?_ ?_
       rotate_left
       ·rintro w' ⟨s0, s1, s2, s3, s4, s5, s6, s7, s8, s9, s10, s11⟩
        go_simp
        with_reducible rfl
       rotate_left
       ·simp only [putS]
        rfl
       refine one_ (i := 1) (N := some 13) qx18_2 rfl rfl (one_of HT_.out (by kernel_rfl)) (by decide) (fun K hK => ?_)
       refine goes_ Try.func14 (by kernel_rfl) rfl #[.agg #[.int .i64 ((rd_T30 l0 x7_1).f0.f0), .int .i64 ((rd_T30 l0 x7_1).f0.f1), .int .i64 ((rd_T30 l0 x7_1).f1), .int .i64 ((rd_T30 l0 x7_1).f2.f0), .int .i64 ((rd_T30 l0 x7_1).f2.f1), .int .i64 ((rd_T30 l0 x7_1).f3.f0), .int .i64 ((rd_T30 l0 x7_1).f3.f1), .int .i64 ((rd_T30 l0 x7_1).f4.f0), .int .i64 ((rd_T30 l0 x7_1).f4.f1), .int .i64 ((rd_T30 l0 x7_1).f5), .bool ((rd_T30 l0 x7_1).f6), .string ((rd_T30 l0 x7_1).f7)]] (by rfl) rfl rfl (by (try simp only [List.map_toArray, List.map_cons, List.map_nil]); first | done | rfl | (simp only [List.length_drop, List.length_take]; rfl)) ?_
       with_reducible refine (impl_ValidOp.calls ((rd_T30 l0 x7_1).f0.f0) ((rd_T30 l0 x7_1).f0.f1) ((rd_T30 l0 x7_1).f1) ((rd_T30 l0 x7_1).f2.f0) ((rd_T30 l0 x7_1).f2.f1) ((rd_T30 l0 x7_1).f3.f0) ((rd_T30 l0 x7_1).f3.f1) ((rd_T30 l0 x7_1).f4.f0) ((rd_T30 l0 x7_1).f4.f1) ((rd_T30 l0 x7_1).f5) ((rd_T30 l0 x7_1).f6) ((rd_T30 l0 x7_1).f7) false _ A5.out).mono ?_
       rintro e w34 ⟨rfl, hb⟩
       refine ⟨_, rfl, ?_⟩
       have n0_ := am (blk_below (g := gb236) (o := .cells #[.int .i64 ((rd_T30 l0 x7_1).f0.f0), .int .i64 ((rd_T30 l0 x7_1).f0.f1), .int .i64 ((rd_T30 l0 x7_1).f1), .int .i64 ((rd_T30 l0 x7_1).f2.f0), .int .i64 ((rd_T30 l0 x7_1).f2.f1), .int .i64 ((rd_T30 l0 x7_1).f3.f0), .int .i64 ((rd_T30 l0 x7_1).f3.f1), .int .i64 ((rd_T30 l0 x7_1).f4.f0), .int .i64 ((rd_T30 l0 x7_1).f4.f1), .int .i64 ((rd_T30 l0 x7_1).f5), .bool ((rd_T30 l0 x7_1).f6), .string ((rd_T30 l0 x7_1).f7)] 30 (0, 0)) (by (with_reducible repeat (first | refine blk_drewN ?_ _ | refine blk_drew ?_ | refine blk_alloc ?_ _)); exact BK236.out) hb)
       have n1_ := am (below_step (by repeat (first | (with_reducible first | exact HB.out | apply below_alloc | apply pw_below_drewN | apply below_drew1 | refine below_set ?_ GE236.out) | exact HB.out)) hb)
       clear BK236
       clear HB
       have BK236 := n0_
       have HB := n1_
       clear n0_ n1_
       (try clear hb)
       (try clear hb2)
       (try clear hk)
       (try clear hi)
       refine hK.out _ _ ⟨(blk_cell BK236.out 0).trans rfl, (blk_cell BK236.out 1).trans rfl, (blk_cell BK236.out 2).trans rfl, (blk_cell BK236.out 3).trans rfl, (blk_cell BK236.out 4).trans rfl, (blk_cell BK236.out 5).trans rfl, (blk_cell BK236.out 6).trans rfl, (blk_cell BK236.out 7).trans rfl, (blk_cell BK236.out 8).trans rfl, (blk_cell BK236.out 9).trans rfl, (blk_cell BK236.out 10).trans rfl, (blk_cell BK236.out 11).trans rfl⟩ (fun hHeld => ?_)
       clear hK K
       refine norm_ (a' := ?_) ?_ ?_
       rotate_left
       ·show Act.put _ (some 13) _ = _
        simp only [putS]
        rfl
       refine pure_ (i := 2) (N := some 14) (v := ?_) (a' := ?_) qx18_3 rfl rfl (any_of HT_.out (by kernel_rfl)) (fun _ _ _ h => h) (Or.inl ⟨by rfl, ?_⟩) ?_ ?_
       rotate_left
       ·intro w'
        go_simp
        with_reducible rfl
       rotate_left
       ·simp only [putS]
        rfl
       refine pure_ (i := 3) (N := some 15) (v := ?_) (a' := ?_) qx18_4 rfl rfl (any_of HT_.out (by kernel_rfl)) (fun _ _ _ h => h) (Or.inl ⟨by rfl, ?_⟩) ?_ ?_
       rotate_left
       ·intro w'
        go_simp
        with_reducible rfl
       rotate_left
       ·simp only [putS]
        rfl
       refine pure_ (i := 4) (N := some 16) (v := undef) (a' := ?_) qx18_5 rfl rfl (any_of HT_.out (by kernel_rfl)) (fun _ _ _ h => h) (Or.inr ⟨by rfl, rfl⟩) ?_ ?_
       rotate_left
       ·simp only [putS]
        rfl
       refine pure_ (i := 5) (N := some 17) (v := undef) (a' := ?_) qx18_6 rfl rfl (any_of HT_.out (by kernel_rfl)) (fun _ _ _ h => h) (Or.inr ⟨by rfl, rfl⟩) ?_ ?_
       rotate_left
       ·simp only [putS]
        rfl
       refine pure_ (i := 6) (N := some 18) (v := undef) (a' := ?_) qx18_7 rfl rfl (any_of HT_.out (by kernel_rfl)) (fun _ _ _ h => h) (Or.inr ⟨by rfl, rfl⟩) ?_ ?_
       rotate_left
       ·simp only [putS]
        rfl
       refine pure_ (i := 7) (N := some 19) (v := undef) (a' := ?_) qx18_8 rfl rfl (any_of HT_.out (by kernel_rfl)) (fun _ _ _ h => h) (Or.inr ⟨by rfl, rfl⟩) ?_ ?_
       rotate_left
       ·simp only [putS]
        rfl
       refine pure_ (i := 8) (N := some 20) (v := undef) (a' := ?_) qx18_9 rfl rfl (any_of HT_.out (by kernel_rfl)) (fun _ _ _ h => h) (Or.inr ⟨by rfl, rfl⟩) ?_ ?_
       rotate_left
       ·simp only [putS]
        rfl
       refine pure_ (i := 9) (N := some 21) (v := undef) (a' := ?_) qx18_10 rfl rfl (any_of HT_.out (by kernel_rfl)) (fun _ _ _ h => h) (Or.inr ⟨by rfl, rfl⟩) ?_ ?_
       rotate_left
       ·simp only [putS]
        rfl
       refine pure_ (i := 10) (N := some 22) (v := undef) (a' := ?_) qx18_11 rfl rfl (any_of HT_.out (by kernel_rfl)) (fun _ _ _ h => h) (Or.inr ⟨by rfl, rfl⟩) ?_ ?_
       rotate_left
       ·simp only [putS]
        rfl
       refine pure_ (i := 11) (N := some 23) (v := undef) (a' := ?_) qx18_12 rfl rfl (any_of HT_.out (by kernel_rfl)) (fun _ _ _ h => h) (Or.inr ⟨by rfl, rfl⟩) ?_ ?_
       rotate_left
       ·simp only [putS]
        rfl
       refine pure_ (i := 12) (N := some 24) (v := undef) (a' := ?_) qx18_20 rfl rfl (any_of HT_.out (by kernel_rfl)) (fun _ _ _ h => h) (Or.inr ⟨by rfl, rfl⟩) ?_ ?_
       rotate_left
       ·simp only [putS]
        rfl
       refine pure_ (i := 13) (N := some 25) (v := undef) (a' := ?_) qx18_13 rfl rfl (any_of HT_.out (by kernel_rfl)) (fun _ _ _ h => h) (Or.inr ⟨by rfl, rfl⟩) ?_ ?_
       rotate_left
       ·simp only [putS]
        rfl
       refine pure_ (i := 14) (N := some 26) (v := undef) (a' := ?_) qx18_14 rfl rfl (any_of HT_.out (by kernel_rfl)) (fun _ _ _ h => h) (Or.inr ⟨by rfl, rfl⟩) ?_ ?_
       rotate_left
       ·simp only [putS]
        rfl
       refine pure_ (i := 15) (N := some 27) (v := undef) (a' := ?_) qx18_15 rfl rfl (any_of HT_.out (by kernel_rfl)) (fun _ _ _ h => h) (Or.inr ⟨by rfl, rfl⟩) ?_ ?_
       rotate_left
       ·simp only [putS]
        rfl
       refine pure_ (i := 16) (N := some 28) (v := undef) (a' := ?_) qx18_16 rfl rfl (any_of HT_.out (by kernel_rfl)) (fun _ _ _ h => h) (Or.inr ⟨by rfl, rfl⟩) ?_ ?_
       rotate_left
       ·simp only [putS]
        rfl
       refine pure_ (i := 17) (N := some 29) (v := undef) (a' := ?_) qx18_17 rfl rfl (any_of HT_.out (by kernel_rfl)) (fun _ _ _ h => h) (Or.inr ⟨by rfl, rfl⟩) ?_ ?_
       rotate_left
       ·simp only [putS]
        rfl
       refine pure_ (i := 18) (N := some 30) (v := ?_) (a' := ?_) qx18_18 rfl rfl (any_of HT_.out (by kernel_rfl)) (fun _ _ _ h => h) (Or.inl ⟨by rfl, ?_⟩) ?_ ?_
       rotate_left
       ·intro w'
        go_simp
        with_reducible rfl
       rotate_left
       ·simp only [putS]
        rfl
       refine done_ (done_of HT_.out (by kernel_rfl)) ?_
       try go_wp2
       go_ret
       exact ⟨by first | rfl | (simp [errW_none, errW_some] <;> rfl) | (simp [*, errW_none, errW_some] <;> rfl), by repeat (first | (with_reducible first | exact HB.out | apply below_alloc | apply pw_below_drewN | apply below_drew1 | refine below_set ?_ GE236.out) | exact HB.out)⟩
     ·rw [if_neg c4] at H
      exact absurd H (by simp)
    ·rw [if_neg c3] at H
     exact absurd H (by simp)
   ·rw [if_neg c2] at H
    have c2b0 : decide (x7_1 < (l0.length : Int)) = false := decide_eq_false c2
    clear c2
    obtain rfl := Option.some.inj H
    go_wp2
    go_ret
    exact ⟨by first | rfl | (simp [errW_none, errW_some] <;> rfl) | (simp [*, errW_none, errW_some] <;> rfl), by repeat (first | (with_reducible first | exact HB.out | apply below_alloc | apply pw_below_drewN | apply below_drew1) | exact HB.out)⟩

end Go.Proofs.Ytomigiindmojkaa.QJ

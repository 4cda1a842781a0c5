/- A call of each function named here does what the Lean function of that name says. Conditions: each theorem's premises. Printed by the kit, repaired by a program, joined with texts by hand. -/
import Derived.Test.YtomigiindmojkaaQGx0
import Derived.Test.YtomigiindmojkaaQGx15
import Derived.Test.YtomigiindmojkaaQGx16
namespace Go.Proofs.Ytomigiindmojkaa.QG
open Go.Proofs.Ytomigiindmojkaa.Base Go.RowKit Go.Proofs.YtomigiindmojkaaW.PrintWords Go.Proofs.YtomigiindmojkaaW.PrintLast Go.Proofs.YtomigiindmojkaaW.PrintMore
attribute [local go_sem] max2_int min2_int max_two min_two max_three min_three max_four min_four   -- for this text's walks alone
set_option linter.unusedVariables false
set_option linter.unusedSimpArgs false

def qx17_0 : Array Bool := #[false, false, false, false, false, false, false, false, false, false, false, false, false, false, false, false, false, false, false]
def qx17_1 : Array Bool := #[true, false, false, false, false, false, false, false, false, false, false, false, false, false, false, false, false, false, false]
def qx17_2 : Array Bool := #[true, true, false, false, false, false, false, false, false, false, false, false, false, false, false, false, false, false, false]
def qx17_3 : Array Bool := #[true, true, true, false, false, false, false, false, false, false, false, false, false, false, false, false, false, false, false]
def qx17_4 : Array Bool := #[true, true, true, true, false, false, false, false, false, false, false, false, false, false, false, false, false, false, false]
def qx17_5 : Array Bool := #[true, true, true, true, true, false, false, false, false, false, false, false, false, false, false, false, false, false, false]
def qx17_6 : Array Bool := #[true, true, true, true, true, true, false, false, false, false, false, false, false, false, false, false, false, false, false]
def qx17_7 : Array Bool := #[true, true, true, true, true, true, true, false, false, false, false, false, false, false, false, false, false, false, false]
def qx17_8 : Array Bool := #[true, true, true, true, true, true, true, true, false, false, false, false, false, false, false, false, false, false, false]
def qx17_9 : Array Bool := #[true, true, true, true, true, true, true, true, true, false, false, false, false, false, false, false, false, false, false]
def qx17_10 : Array Bool := #[true, true, true, true, true, true, true, true, true, true, false, false, false, false, false, false, false, false, false]
def qx17_11 : Array Bool := #[true, true, true, true, true, true, true, true, true, true, true, false, false, false, false, false, false, false, false]
def qx17_12 : Array Bool := #[true, true, true, true, true, true, true, true, true, true, true, true, false, false, false, false, false, false, false]
def qx17_13 : Array Bool := #[true, true, true, true, true, true, true, true, true, true, true, true, true, true, false, false, false, false, false]
def qx17_14 : Array Bool := #[true, true, true, true, true, true, true, true, true, true, true, true, true, true, true, false, false, false, false]
def qx17_15 : Array Bool := #[true, true, true, true, true, true, true, true, true, true, true, true, true, true, true, true, false, false, false]
def qx17_16 : Array Bool := #[true, true, true, true, true, true, true, true, true, true, true, true, true, true, true, true, true, false, false]
def qx17_17 : Array Bool := #[true, true, true, true, true, true, true, true, true, true, true, true, true, true, true, true, true, true, false]
def qx17_18 : Array Bool := #[true, true, true, true, true, true, true, true, true, true, true, true, true, true, true, true, true, true, true]
def qx17_19 : Array Bool := #[true, true, true, true, true, true, true, true, true, true, true, true, false, true, false, false, false, false, false]
def qx17_20 : Array Bool := #[true, true, true, true, true, true, true, true, true, true, true, true, true, false, false, false, false, false, false]
/-! ### impl_ValidLog: function 18 -/
def impl_ValidLog.l0 : Nat → List (S30) → List (S30) → Int → Int → Option (Bool)
 | 0, _, _, _, _ => none
 | k + 1, x0, x5, x6, x7 => if x7 < x6 then (if 0 ≤ x7 then (if x7 < (x5.length : Int) then ((impl_ValidOp.f ((rd_T30 x5 x7).f0.f0) ((rd_T30 x5 x7).f0.f1) ((rd_T30 x5 x7).f1) ((rd_T30 x5 x7).f2.f0) ((rd_T30 x5 x7).f2.f1) ((rd_T30 x5 x7).f3.f0) ((rd_T30 x5 x7).f3.f1) ((rd_T30 x5 x7).f4.f0) ((rd_T30 x5 x7).f4.f1) ((rd_T30 x5 x7).f5) ((rd_T30 x5 x7).f6) ((rd_T30 x5 x7).f7)).bind fun t227 => (if t227 = true then (if x7 > 0 then (if 0 ≤ (wrap64 (x7 - 1)) then (if (wrap64 (x7 - 1)) < (x0.length : Int) then ((impl_StampLess.f ((rd_T30 x0 (wrap64 (x7 - 1))).f0.f0) ((rd_T30 x0 (wrap64 (x7 - 1))).f0.f1) ((rd_T30 x5 x7).f0.f0) ((rd_T30 x5 x7).f0.f1)).bind fun t229 => (if t229 = true then (impl_ValidLog.l0 k x0 x5 x6 (wrap64 (x7 + 1))) else (some false))) else (none)) else (none)) else (impl_ValidLog.l0 k x0 x5 x6 (wrap64 (x7 + 1)))) else (some false))) else (none)) else (none)) else (some (decide ((x0.length : Int) ≤ 40)))
def impl_ValidLog.f (k : Nat) (l0 : List (S30)) : Option (Bool) := impl_ValidLog.l0 k l0 l0 (l0.length : Int) 0
theorem impl_ValidLog.mono_l : ∀ k, (∀ y0 y1 y2 y3, LeO (impl_ValidLog.l0 k y0 y1 y2 y3) (impl_ValidLog.l0 (k + 1) y0 y1 y2 y3))
 | 0 => fun _ _ _ _ r h => by simp [impl_ValidLog.l0] at h
 | k + 1 => by
  have ih0 := impl_ValidLog.mono_l k
  ·intro y0 y1 y2 y3
   unfold impl_ValidLog.l0
   repeat' first
   | (with_reducible exact ih0 _ _ _ _)
   | (with_reducible exact LeO.refl _)
   | (with_reducible exact LeO.none _)
   | (with_reducible refine LeO.ite ?_ ?_)
   | (with_reducible refine LeO.bind ?_ (fun _ => ?_))
   | exact ih0 _ _ _ _
   | exact LeO.none _
   | refine LeO.ite ?_ ?_
   | refine LeO.bind ?_ (fun _ => ?_)
theorem impl_ValidLog.mono : ∀ a0 k, LeO (impl_ValidLog.f k a0) (impl_ValidLog.f (k + 1) a0) := by
 intro a0 k
 have ih0 := impl_ValidLog.mono_l k
 unfold impl_ValidLog.f
 repeat' first
   | (with_reducible exact ih0 _ _ _ _)
   | (with_reducible exact LeO.refl _)
   | (with_reducible exact LeO.none _)
   | (with_reducible refine LeO.ite ?_ ?_)
   | (with_reducible refine LeO.bind ?_ (fun _ => ?_))
   | exact ih0 _ _ _ _
   | exact LeO.none _
   | refine LeO.ite ?_ ?_
   | refine LeO.bind ?_ (fun _ => ?_)
def impl_ValidLog.T4 : Bool × List (List Nat × List Nat) := (true, [([], []), ([0], [0]), ([1], [1]), ([2, 1], [2]), ([3], [3]), ([4, 3], [3, 4]), ([5, 3, 3], [3, 5]), ([6], [6]), ([6], [6]), ([8, 6], [6, 8]), ([7, 9, 6], [6, 7, 9]), ([10, 6], [6, 10]), ([11, 6], [6, 11]), ([6], [6]), ([13, 6], [6, 13]), ([12, 14, 6, 6], [6, 12, 14]), ([15, 6], [6, 15]), ([6, 16, 3], [3, 6, 16]), ([3, 17], [3, 17])])
def impl_ValidLog.B4 : List Nat := [0, 1, 3, 7, 15, 31, 63, 127, 127, 383, 1023, 2047, 4095, 127, 8319, 32767, 65535, 131071, 262143]
theorem impl_ValidLog.tab4 : rtab .any (opsOf Try.f18 4) = impl_ValidLog.T4 := by kernel_rfl
theorem impl_ValidLog.bits4 : waitsOk impl_ValidLog.T4.2 impl_ValidLog.B4 = true := by kernel_rfl
set_option maxHeartbeats 8000000 in
set_option maxRecDepth 100000 in
theorem impl_ValidLog.calls (k : Nat) (A0 : Option Addr) (c0 : Nat) (l0 : List (S30)) (r : Bool) (w : World) (hr0 : Kd.C k30 w A0 l0.length l0) (hc0 : l0.length ≤ c0) (h : impl_ValidLog.f k l0 = some r) :
  Calls Try.prog 18 #[.slice A0 l0.length c0] w fun e w' => e = .returned (.bool r) ∧ Below w.heap.size w w' := by
 have hu30 := Try.underlying30
 have hu28 := Try.underlying28
 have HR0 := Aside0.mk hr0
 have HC0 := Aside0.mk hc0
 clear hr0 hc0
 have HB := Aside0.mk (Below.refl w.heap.size w)
 have H : (impl_ValidLog.l0 k l0 l0 (l0.length : Int) 0) = some r := h
 clear h
 have H' := Aside0.mk H
 clear H
 go_enter Try.func18, Try.ntmps18
 go_wp2
 go_loopg [7] k (fun kq v7 w' => ∃ (x7_1 : Int), v7 = .int .i64 x7_1 ∧ Aside0 (impl_ValidLog.l0 kq l0 l0 (l0.length : Int) x7_1 = some r) ∧ Aside0 (kq ≤ k) ∧ Aside0 (Below w.heap.size w w'))
 case atStart => exact ⟨(0), (by first | rfl | (simp; done) | (simp [*]; done)), H', ⟨Nat.le_refl _⟩, ⟨by repeat (first | (with_reducible first | exact HB.out | apply below_alloc | apply pw_below_drewN | apply below_drew1) | exact HB.out)⟩⟩
 case round =>
  clear H'
  try clear c1
  obtain ⟨x7_1, rfl, HA, HK1, HB⟩ := hrel
  cases gk with
  | zero => exact absurd HA.out (by simp [impl_ValidLog.l0])
  | succ k1 =>
   have H := HA.out
   clear HA
   simp only [impl_ValidLog.l0] at H
   by_cases c2 : x7_1 < (l0.length : Int)
   ·rw [if_pos c2] at H
    have c2b0 : decide (x7_1 < (l0.length : Int)) = true := decide_eq_true c2
    clear c2
    by_cases c3 : 0 ≤ x7_1
    ·rw [if_pos c3] at H
     have c3b0 : decide (0 ≤ x7_1) = true := decide_eq_true c3
     clear c3
     by_cases c4 : x7_1 < (l0.length : Int)
     ·rw [if_pos c4] at H
      have c4b0 : decide (x7_1 < (l0.length : Int)) = true := decide_eq_true c4
      clear c4
      replace H := Option.bind_eq_some_iff.mp H
      obtain ⟨t227, A50, H⟩ := H
      replace H : (if t227 = true then (if x7_1 > 0 then (if 0 ≤ (wrap64 (x7_1 - 1)) then (if (wrap64 (x7_1 - 1)) < (l0.length : Int) then ((impl_StampLess.f ((rd_T30 l0 (wrap64 (x7_1 - 1))).f0.f0) ((rd_T30 l0 (wrap64 (x7_1 - 1))).f0.f1) ((rd_T30 l0 x7_1).f0.f0) ((rd_T30 l0 x7_1).f0.f1)).bind fun t229 => (if t229 = true then (impl_ValidLog.l0 k1 l0 l0 (l0.length : Int) (wrap64 (x7_1 + 1))) else (some false))) else (none)) else (none)) else (impl_ValidLog.l0 k1 l0 l0 (l0.length : Int) (wrap64 (x7_1 + 1)))) else (some false)) = some r := H
      have A5 := Aside0.mk A50
      clear A50
      by_cases c6 : t227 = true
      ·subst c6
       have H1 : (if x7_1 > 0 then (if 0 ≤ (wrap64 (x7_1 - 1)) then (if (wrap64 (x7_1 - 1)) < (l0.length : Int) then ((impl_StampLess.f ((rd_T30 l0 (wrap64 (x7_1 - 1))).f0.f0) ((rd_T30 l0 (wrap64 (x7_1 - 1))).f0.f1) ((rd_T30 l0 x7_1).f0.f0) ((rd_T30 l0 x7_1).f0.f1)).bind fun t229 => (if t229 = true then (impl_ValidLog.l0 k1 l0 l0 (l0.length : Int) (wrap64 (x7_1 + 1))) else (some false))) else (none)) else (none)) else (impl_ValidLog.l0 k1 l0 l0 (l0.length : Int) (wrap64 (x7_1 + 1)))) = some r := by rw [if_pos rfl] at H; exact H
       clear H
       have H := H1
       clear H1
       by_cases c7 : x7_1 > 0
       ·rw [if_pos c7] at H
        have c7b0 : decide (0 < x7_1) = true := decide_eq_true c7
        clear c7
        obtain ⟨ji8, hji8⟩ : ∃ j_ : Int, (wrap64 (x7_1 - 1)) = j_ := ⟨_, rfl⟩
        replace H : (if 0 ≤ (ji8) then (if (ji8) < (l0.length : Int) then ((impl_StampLess.f ((rd_T30 l0 (ji8)).f0.f0) ((rd_T30 l0 (ji8)).f0.f1) ((rd_T30 l0 x7_1).f0.f0) ((rd_T30 l0 x7_1).f0.f1)).bind fun t229 => (if t229 = true then (impl_ValidLog.l0 k1 l0 l0 (l0.length : Int) (wrap64 (x7_1 + 1))) else (some false))) else (none)) else (none)) = some r := by first | (rw [hji8] at H; exact H) | (simp only [hji8] at H ⊢; exact H)
        (try rw [hji8] at A5)
        have hji8w : (IntKind.i64.wrap (x7_1 - 1)) = ji8 := (i64_w _).trans hji8
        by_cases c9 : 0 ≤ (ji8)
        ·rw [if_pos c9] at H
         have c9b0 : decide (0 ≤ (ji8)) = true := decide_eq_true c9
         clear c9
         by_cases c10 : (ji8) < (l0.length : Int)
         ·rw [if_pos c10] at H
          have c10b0 : decide ((ji8) < (l0.length : Int)) = true := decide_eq_true c10
          clear c10
          replace H := Option.bind_eq_some_iff.mp H
          obtain ⟨t229, A110, H⟩ := H
          replace H : (if t229 = true then (impl_ValidLog.l0 k1 l0 l0 (l0.length : Int) (wrap64 (x7_1 + 1))) else (some false)) = some r := H
          have A11 := Aside0.mk A110
          clear A110
          by_cases c12 : t229 = true
          ·subst c12
           have H1 : (impl_ValidLog.l0 k1 l0 l0 (l0.length : Int) (wrap64 (x7_1 + 1))) = some r := by rw [if_pos rfl] at H; exact H
           clear H
           have H := H1
           clear H1
           have H' := Aside0.mk H
           clear H
           have p225 : 0 ≤ (x7_1 : Int) := of_decide_eq_true (by first | (with_reducible assumption) | assumption)
           have q225 : x7_1 < (l0.length : Int) := of_decide_eq_true (by first | (with_reducible assumption) | assumption)
           obtain ⟨ad225, e225, hx225_0, hx225_1, hx225_2, hx225_3, hx225_4, hx225_5, hx225_6, hx225_7, hx225_8, hx225_9, hx225_10, hx225_11⟩ := at_T30 HR0.out x7_1 p225 q225
           cases e225
           replace hx225_0 := cellUp HB.out hx225_0
           replace hx225_1 := cellUp HB.out hx225_1
           replace hx225_2 := cellUp HB.out hx225_2
           replace hx225_3 := cellUp HB.out hx225_3
           replace hx225_4 := cellUp HB.out hx225_4
           replace hx225_5 := cellUp HB.out hx225_5
           replace hx225_6 := cellUp HB.out hx225_6
           replace hx225_7 := cellUp HB.out hx225_7
           replace hx225_8 := cellUp HB.out hx225_8
           replace hx225_9 := cellUp HB.out hx225_9
           replace hx225_10 := cellUp HB.out hx225_10
           replace hx225_11 := cellUp HB.out hx225_11
           replace p225 := eq_true p225
           replace q225 := eq_true q225
           try go_wp2_with (first | ((with_reducible refine gate_dst (N := 4) rfl ?_); refine box_event ?hg (N := 4) ?hd (cs := #[.int .i64 0, .int .i64 0, .int .i64 0, .int .i64 0, .int .i64 0, .int .i64 0, .int .i64 0, .int .i64 0, .int .i64 0, .int .i64 0, .bool false, .string (⟨#[]⟩ : ByteArray)]) (t := 30) ?hr ?_; (case hd => rfl); (case hg => rfl); (case hr => first | (go_simp; done) | (go_simp; rfl)); intro gb226 hg w13 hbox hb; have n0_ := Aside0.mk (below_step (by repeat (first | (with_reducible first | exact HB.out | apply below_alloc | apply pw_below_drewN | apply below_drew1) | exact HB.out)) hb); have n1_ := Aside0.mk (hbox); have n2_ := Aside0.mk ((by rw [hg]; exact (below_size (by repeat (first | (with_reducible first | exact HB.out | apply below_alloc | apply pw_below_drewN | apply below_drew1) | exact HB.out))) : w.heap.size ≤ gb226)); have n3_ := Aside0.mk ((by rw [hg]; exact (below_size (by repeat (first | (with_reducible first | exact HB.out | apply below_alloc | apply pw_below_drewN | apply below_drew1) | exact HB.out))) : w.heap.size ≤ gb226)); clear HB; have HB := n0_; have BK226 := n1_; have GW226 := n2_; have GE226 := n3_; clear n0_ n1_ n2_ n3_; clear hb hbox hg; have hcz14_0 : w13.cell? ⟨gb226, 0, none⟩ = some (.int .i64 0) := (blk_cell BK226.out 0).trans rfl; have hcz14_1 : w13.cell? ⟨gb226, 1, none⟩ = some (.int .i64 0) := (blk_cell BK226.out 1).trans rfl; have hcz14_2 : w13.cell? ⟨gb226, 2, none⟩ = some (.int .i64 0) := (blk_cell BK226.out 2).trans rfl; have hcz14_3 : w13.cell? ⟨gb226, 3, none⟩ = some (.int .i64 0) := (blk_cell BK226.out 3).trans rfl; have hcz14_4 : w13.cell? ⟨gb226, 4, none⟩ = some (.int .i64 0) := (blk_cell BK226.out 4).trans rfl; have hcz14_5 : w13.cell? ⟨gb226, 5, none⟩ = some (.int .i64 0) := (blk_cell BK226.out 5).trans rfl; have hcz14_6 : w13.cell? ⟨gb226, 6, none⟩ = some (.int .i64 0) := (blk_cell BK226.out 6).trans rfl; have hcz14_7 : w13.cell? ⟨gb226, 7, none⟩ = some (.int .i64 0) := (blk_cell BK226.out 7).trans rfl; have hcz14_8 : w13.cell? ⟨gb226, 8, none⟩ = some (.int .i64 0) := (blk_cell BK226.out 8).trans rfl; have hcz14_9 : w13.cell? ⟨gb226, 9, none⟩ = some (.int .i64 0) := (blk_cell BK226.out 9).trans rfl; have hcz14_10 : w13.cell? ⟨gb226, 10, none⟩ = some (.bool false) := (blk_cell BK226.out 10).trans rfl; have hcz14_11 : w13.cell? ⟨gb226, 11, none⟩ = some (.string (⟨#[]⟩ : ByteArray)) := (blk_cell BK226.out 11).trans rfl; have hfz14_0 := blk_frozen BK226.out 0; have hfz14_1 := blk_frozen BK226.out 1; have hfz14_2 := blk_frozen BK226.out 2; have hfz14_3 := blk_frozen BK226.out 3; have hfz14_4 := blk_frozen BK226.out 4; have hfz14_5 := blk_frozen BK226.out 5; have hfz14_6 := blk_frozen BK226.out 6; have hfz14_7 := blk_frozen BK226.out 7; have hfz14_8 := blk_frozen BK226.out 8; have hfz14_9 := blk_frozen BK226.out 9; have hfz14_10 := blk_frozen BK226.out 10; have hfz14_11 := blk_frozen BK226.out 11))
           have n0_ : Aside0 (((((((((((((w13.setCell ⟨gb226, 0, none⟩ (.int .i64 ((rd_T30 l0 x7_1).f0.f0))).setCell ⟨gb226, 1, none⟩ (.int .i64 ((rd_T30 l0 x7_1).f0.f1))).setCell ⟨gb226, 2, none⟩ (.int .i64 ((rd_T30 l0 x7_1).f1))).setCell ⟨gb226, 3, none⟩ (.int .i64 ((rd_T30 l0 x7_1).f2.f0))).setCell ⟨gb226, 4, none⟩ (.int .i64 ((rd_T30 l0 x7_1).f2.f1))).setCell ⟨gb226, 5, none⟩ (.int .i64 ((rd_T30 l0 x7_1).f3.f0))).setCell ⟨gb226, 6, none⟩ (.int .i64 ((rd_T30 l0 x7_1).f3.f1))).setCell ⟨gb226, 7, none⟩ (.int .i64 ((rd_T30 l0 x7_1).f4.f0))).setCell ⟨gb226, 8, none⟩ (.int .i64 ((rd_T30 l0 x7_1).f4.f1))).setCell ⟨gb226, 9, none⟩ (.int .i64 ((rd_T30 l0 x7_1).f5))).setCell ⟨gb226, 10, none⟩ (.bool ((rd_T30 l0 x7_1).f6))).setCell ⟨gb226, 11, none⟩ (.string ((rd_T30 l0 x7_1).f7))).heap[gb226]? = some (.cells #[.int .i64 ((rd_T30 l0 x7_1).f0.f0), .int .i64 ((rd_T30 l0 x7_1).f0.f1), .int .i64 ((rd_T30 l0 x7_1).f1), .int .i64 ((rd_T30 l0 x7_1).f2.f0), .int .i64 ((rd_T30 l0 x7_1).f2.f1), .int .i64 ((rd_T30 l0 x7_1).f3.f0), .int .i64 ((rd_T30 l0 x7_1).f3.f1), .int .i64 ((rd_T30 l0 x7_1).f4.f0), .int .i64 ((rd_T30 l0 x7_1).f4.f1), .int .i64 ((rd_T30 l0 x7_1).f5), .bool ((rd_T30 l0 x7_1).f6), .string ((rd_T30 l0 x7_1).f7)] 30 (0, 0))) := ⟨by (with_reducible repeat (first | refine blk_drewN ?_ _ | refine blk_drew ?_ | refine blk_alloc ?_ _)); refine blk_put (cs := #[.int .i64 ((rd_T30 l0 x7_1).f0.f0), .int .i64 ((rd_T30 l0 x7_1).f0.f1), .int .i64 ((rd_T30 l0 x7_1).f1), .int .i64 ((rd_T30 l0 x7_1).f2.f0), .int .i64 ((rd_T30 l0 x7_1).f2.f1), .int .i64 ((rd_T30 l0 x7_1).f3.f0), .int .i64 ((rd_T30 l0 x7_1).f3.f1), .int .i64 ((rd_T30 l0 x7_1).f4.f0), .int .i64 ((rd_T30 l0 x7_1).f4.f1), .int .i64 ((rd_T30 l0 x7_1).f5), .bool ((rd_T30 l0 x7_1).f6), .string (⟨#[]⟩ : ByteArray)]) ?_ 11 _ rfl; (with_reducible repeat (first | refine blk_drewN ?_ _ | refine blk_drew ?_ | refine blk_alloc ?_ _)); refine blk_put (cs := #[.int .i64 ((rd_T30 l0 x7_1).f0.f0), .int .i64 ((rd_T30 l0 x7_1).f0.f1), .int .i64 ((rd_T30 l0 x7_1).f1), .int .i64 ((rd_T30 l0 x7_1).f2.f0), .int .i64 ((rd_T30 l0 x7_1).f2.f1), .int .i64 ((rd_T30 l0 x7_1).f3.f0), .int .i64 ((rd_T30 l0 x7_1).f3.f1), .int .i64 ((rd_T30 l0 x7_1).f4.f0), .int .i64 ((rd_T30 l0 x7_1).f4.f1), .int .i64 ((rd_T30 l0 x7_1).f5), .bool false, .string (⟨#[]⟩ : ByteArray)]) ?_ 10 _ rfl; (with_reducible repeat (first | refine blk_drewN ?_ _ | refine blk_drew ?_ | refine blk_alloc ?_ _)); refine blk_put (cs := #[.int .i64 ((rd_T30 l0 x7_1).f0.f0), .int .i64 ((rd_T30 l0 x7_1).f0.f1), .int .i64 ((rd_T30 l0 x7_1).f1), .int .i64 ((rd_T30 l0 x7_1).f2.f0), .int .i64 ((rd_T30 l0 x7_1).f2.f1), .int .i64 ((rd_T30 l0 x7_1).f3.f0), .int .i64 ((rd_T30 l0 x7_1).f3.f1), .int .i64 ((rd_T30 l0 x7_1).f4.f0), .int .i64 ((rd_T30 l0 x7_1).f4.f1), .int .i64 0, .bool false, .string (⟨#[]⟩ : ByteArray)]) ?_ 9 _ rfl; (with_reducible repeat (first | refine blk_drewN ?_ _ | refine blk_drew ?_ | refine blk_alloc ?_ _)); refine blk_put (cs := #[.int .i64 ((rd_T30 l0 x7_1).f0.f0), .int .i64 ((rd_T30 l0 x7_1).f0.f1), .int .i64 ((rd_T30 l0 x7_1).f1), .int .i64 ((rd_T30 l0 x7_1).f2.f0), .int .i64 ((rd_T30 l0 x7_1).f2.f1), .int .i64 ((rd_T30 l0 x7_1).f3.f0), .int .i64 ((rd_T30 l0 x7_1).f3.f1), .int .i64 ((rd_T30 l0 x7_1).f4.f0), .int .i64 0, .int .i64 0, .bool false, .string (⟨#[]⟩ : ByteArray)]) ?_ 8 _ rfl; (with_reducible repeat (first | refine blk_drewN ?_ _ | refine blk_drew ?_ | refine blk_alloc ?_ _)); refine blk_put (cs := #[.int .i64 ((rd_T30 l0 x7_1).f0.f0), .int .i64 ((rd_T30 l0 x7_1).f0.f1), .int .i64 ((rd_T30 l0 x7_1).f1), .int .i64 ((rd_T30 l0 x7_1).f2.f0), .int .i64 ((rd_T30 l0 x7_1).f2.f1), .int .i64 ((rd_T30 l0 x7_1).f3.f0), .int .i64 ((rd_T30 l0 x7_1).f3.f1), .int .i64 0, .int .i64 0, .int .i64 0, .bool false, .string (⟨#[]⟩ : ByteArray)]) ?_ 7 _ rfl; (with_reducible repeat (first | refine blk_drewN ?_ _ | refine blk_drew ?_ | refine blk_alloc ?_ _)); refine blk_put (cs := #[.int .i64 ((rd_T30 l0 x7_1).f0.f0), .int .i64 ((rd_T30 l0 x7_1).f0.f1), .int .i64 ((rd_T30 l0 x7_1).f1), .int .i64 ((rd_T30 l0 x7_1).f2.f0), .int .i64 ((rd_T30 l0 x7_1).f2.f1), .int .i64 ((rd_T30 l0 x7_1).f3.f0), .int .i64 0, .int .i64 0, .int .i64 0, .int .i64 0, .bool false, .string (⟨#[]⟩ : ByteArray)]) ?_ 6 _ rfl; (with_reducible repeat (first | refine blk_drewN ?_ _ | refine blk_drew ?_ | refine blk_alloc ?_ _)); refine blk_put (cs := #[.int .i64 ((rd_T30 l0 x7_1).f0.f0), .int .i64 ((rd_T30 l0 x7_1).f0.f1), .int .i64 ((rd_T30 l0 x7_1).f1), .int .i64 ((rd_T30 l0 x7_1).f2.f0), .int .i64 ((rd_T30 l0 x7_1).f2.f1), .int .i64 0, .int .i64 0, .int .i64 0, .int .i64 0, .int .i64 0, .bool false, .string (⟨#[]⟩ : ByteArray)]) ?_ 5 _ rfl; (with_reducible repeat (first | refine blk_drewN ?_ _ | refine blk_drew ?_ | refine blk_alloc ?_ _)); refine blk_put (cs := #[.int .i64 ((rd_T30 l0 x7_1).f0.f0), .int .i64 ((rd_T30 l0 x7_1).f0.f1), .int .i64 ((rd_T30 l0 x7_1).f1), .int .i64 ((rd_T30 l0 x7_1).f2.f0), .int .i64 0, .int .i64 0, .int .i64 0, .int .i64 0, .int .i64 0, .int .i64 0, .bool false, .string (⟨#[]⟩ : ByteArray)]) ?_ 4 _ rfl; (with_reducible repeat (first | refine blk_drewN ?_ _ | refine blk_drew ?_ | refine blk_alloc ?_ _)); refine blk_put (cs := #[.int .i64 ((rd_T30 l0 x7_1).f0.f0), .int .i64 ((rd_T30 l0 x7_1).f0.f1), .int .i64 ((rd_T30 l0 x7_1).f1), .int .i64 0, .int .i64 0, .int .i64 0, .int .i64 0, .int .i64 0, .int .i64 0, .int .i64 0, .bool false, .string (⟨#[]⟩ : ByteArray)]) ?_ 3 _ rfl; (with_reducible repeat (first | refine blk_drewN ?_ _ | refine blk_drew ?_ | refine blk_alloc ?_ _)); refine blk_put (cs := #[.int .i64 ((rd_T30 l0 x7_1).f0.f0), .int .i64 ((rd_T30 l0 x7_1).f0.f1), .int .i64 0, .int .i64 0, .int .i64 0, .int .i64 0, .int .i64 0, .int .i64 0, .int .i64 0, .int .i64 0, .bool false, .string (⟨#[]⟩ : ByteArray)]) ?_ 2 _ rfl; (with_reducible repeat (first | refine blk_drewN ?_ _ | refine blk_drew ?_ | refine blk_alloc ?_ _)); refine blk_put (cs := #[.int .i64 ((rd_T30 l0 x7_1).f0.f0), .int .i64 0, .int .i64 0, .int .i64 0, .int .i64 0, .int .i64 0, .int .i64 0, .int .i64 0, .int .i64 0, .int .i64 0, .bool false, .string (⟨#[]⟩ : ByteArray)]) ?_ 1 _ rfl; (with_reducible repeat (first | refine blk_drewN ?_ _ | refine blk_drew ?_ | refine blk_alloc ?_ _)); refine blk_put (cs := #[.int .i64 0, .int .i64 0, .int .i64 0, .int .i64 0, .int .i64 0, .int .i64 0, .int .i64 0, .int .i64 0, .int .i64 0, .int .i64 0, .bool false, .string (⟨#[]⟩ : ByteArray)]) ?_ 0 _ rfl; (with_reducible repeat (first | refine blk_drewN ?_ _ | refine blk_drew ?_ | refine blk_alloc ?_ _)); exact BK226.out⟩
           have n1_ : Aside0 (Below w.heap.size w ((((((((((((w13.setCell ⟨gb226, 0, none⟩ (.int .i64 ((rd_T30 l0 x7_1).f0.f0))).setCell ⟨gb226, 1, none⟩ (.int .i64 ((rd_T30 l0 x7_1).f0.f1))).setCell ⟨gb226, 2, none⟩ (.int .i64 ((rd_T30 l0 x7_1).f1))).setCell ⟨gb226, 3, none⟩ (.int .i64 ((rd_T30 l0 x7_1).f2.f0))).setCell ⟨gb226, 4, none⟩ (.int .i64 ((rd_T30 l0 x7_1).f2.f1))).setCell ⟨gb226, 5, none⟩ (.int .i64 ((rd_T30 l0 x7_1).f3.f0))).setCell ⟨gb226, 6, none⟩ (.int .i64 ((rd_T30 l0 x7_1).f3.f1))).setCell ⟨gb226, 7, none⟩ (.int .i64 ((rd_T30 l0 x7_1).f4.f0))).setCell ⟨gb226, 8, none⟩ (.int .i64 ((rd_T30 l0 x7_1).f4.f1))).setCell ⟨gb226, 9, none⟩ (.int .i64 ((rd_T30 l0 x7_1).f5))).setCell ⟨gb226, 10, none⟩ (.bool ((rd_T30 l0 x7_1).f6))).setCell ⟨gb226, 11, none⟩ (.string ((rd_T30 l0 x7_1).f7)))) := ⟨by repeat (first | (with_reducible first | exact HB.out | apply below_alloc | apply pw_below_drewN | apply below_drew1 | refine below_set ?_ GE226.out) | exact HB.out)⟩
           (try clear BK226)
           (try clear HB)
           generalize ((((((((((((w13.setCell ⟨gb226, 0, none⟩ (.int .i64 ((rd_T30 l0 x7_1).f0.f0))).setCell ⟨gb226, 1, none⟩ (.int .i64 ((rd_T30 l0 x7_1).f0.f1))).setCell ⟨gb226, 2, none⟩ (.int .i64 ((rd_T30 l0 x7_1).f1))).setCell ⟨gb226, 3, none⟩ (.int .i64 ((rd_T30 l0 x7_1).f2.f0))).setCell ⟨gb226, 4, none⟩ (.int .i64 ((rd_T30 l0 x7_1).f2.f1))).setCell ⟨gb226, 5, none⟩ (.int .i64 ((rd_T30 l0 x7_1).f3.f0))).setCell ⟨gb226, 6, none⟩ (.int .i64 ((rd_T30 l0 x7_1).f3.f1))).setCell ⟨gb226, 7, none⟩ (.int .i64 ((rd_T30 l0 x7_1).f4.f0))).setCell ⟨gb226, 8, none⟩ (.int .i64 ((rd_T30 l0 x7_1).f4.f1))).setCell ⟨gb226, 9, none⟩ (.int .i64 ((rd_T30 l0 x7_1).f5))).setCell ⟨gb226, 10, none⟩ (.bool ((rd_T30 l0 x7_1).f6))).setCell ⟨gb226, 11, none⟩ (.string ((rd_T30 l0 x7_1).f7))) = w15 at n0_ n1_ ⊢
           have BK226 := n0_
           have HB := n1_
           clear n0_ n1_
           have n0_ := Aside0.mk (blk_drew BK226.out)
           have n1_ := Aside0.mk (below_drew1 HB.out)
           clear BK226
           clear HB
           have BK226 := n0_
           have HB := n1_
           clear n0_ n1_
           have p228 : 0 ≤ ((ji8) : Int) := of_decide_eq_true (by first | (with_reducible assumption) | assumption)
           have q228 : (ji8) < (l0.length : Int) := of_decide_eq_true (by first | (with_reducible assumption) | assumption)
           obtain ⟨ad228, e228, hx228_0, hx228_1, hx228_2, hx228_3, hx228_4, hx228_5, hx228_6, hx228_7, hx228_8, hx228_9, hx228_10, hx228_11⟩ := at_T30 HR0.out (ji8) p228 q228
           have hw228_11 := hx228_11
           have hw228_10 := hx228_10
           have hw228_9 := hx228_9
           have hw228_8 := hx228_8
           have hw228_7 := hx228_7
           have hw228_6 := hx228_6
           have hw228_5 := hx228_5
           have hw228_4 := hx228_4
           have hw228_3 := hx228_3
           have hw228_2 := hx228_2
           have hw228_1 := hx228_1
           have hw228_0 := hx228_0
           obtain rfl : ad225 = ad228 := (by injection e228)
           replace hx228_0 := cellUp HB.out hx228_0
           replace hx228_1 := cellUp HB.out hx228_1
           replace hx228_2 := cellUp HB.out hx228_2
           replace hx228_3 := cellUp HB.out hx228_3
           replace hx228_4 := cellUp HB.out hx228_4
           replace hx228_5 := cellUp HB.out hx228_5
           replace hx228_6 := cellUp HB.out hx228_6
           replace hx228_7 := cellUp HB.out hx228_7
           replace hx228_8 := cellUp HB.out hx228_8
           replace hx228_9 := cellUp HB.out hx228_9
           replace hx228_10 := cellUp HB.out hx228_10
           replace hx228_11 := cellUp HB.out hx228_11
           replace p228 := eq_true p228
           replace q228 := eq_true q228
           refine start_ (n := 19) (S := fun w' => w'.cell? ⟨gb226, 0, none⟩ = some (.int .i64 ((rd_T30 l0 x7_1).f0.f0)) ∧ w'.cell? ⟨gb226, 1, none⟩ = some (.int .i64 ((rd_T30 l0 x7_1).f0.f1)) ∧ w'.cell? ⟨gb226, 2, none⟩ = some (.int .i64 ((rd_T30 l0 x7_1).f1)) ∧ w'.cell? ⟨gb226, 3, none⟩ = some (.int .i64 ((rd_T30 l0 x7_1).f2.f0)) ∧ w'.cell? ⟨gb226, 4, none⟩ = some (.int .i64 ((rd_T30 l0 x7_1).f2.f1)) ∧ w'.cell? ⟨gb226, 5, none⟩ = some (.int .i64 ((rd_T30 l0 x7_1).f3.f0)) ∧ w'.cell? ⟨gb226, 6, none⟩ = some (.int .i64 ((rd_T30 l0 x7_1).f3.f1)) ∧ w'.cell? ⟨gb226, 7, none⟩ = some (.int .i64 ((rd_T30 l0 x7_1).f4.f0)) ∧ w'.cell? ⟨gb226, 8, none⟩ = some (.int .i64 ((rd_T30 l0 x7_1).f4.f1)) ∧ w'.cell? ⟨gb226, 9, none⟩ = some (.int .i64 ((rd_T30 l0 x7_1).f5)) ∧ w'.cell? ⟨gb226, 10, none⟩ = some (.bool ((rd_T30 l0 x7_1).f6)) ∧ w'.cell? ⟨gb226, 11, none⟩ = some (.string ((rd_T30 l0 x7_1).f7)) ∧ w'.cell? (ad225.add (((ji8)).toNat * 12)) = some (.int .i64 ((rd_T30 l0 (ji8)).f0.f0)) ∧ w'.cell? ⟨(ad225.add (((ji8)).toNat * 12)).block, (ad225.add (((ji8)).toNat * 12)).off + 1, none⟩ = some (.int .i64 ((rd_T30 l0 (ji8)).f0.f1)) ∧ w'.cell? ⟨(ad225.add (((ji8)).toNat * 12)).block, (ad225.add (((ji8)).toNat * 12)).off + 2, none⟩ = some (.int .i64 ((rd_T30 l0 (ji8)).f1)) ∧ w'.cell? ⟨(ad225.add (((ji8)).toNat * 12)).block, (ad225.add (((ji8)).toNat * 12)).off + 3, none⟩ = some (.int .i64 ((rd_T30 l0 (ji8)).f2.f0)) ∧ w'.cell? ⟨(ad225.add (((ji8)).toNat * 12)).block, (ad225.add (((ji8)).toNat * 12)).off + 4, none⟩ = some (.int .i64 ((rd_T30 l0 (ji8)).f2.f1)) ∧ w'.cell? ⟨(ad225.add (((ji8)).toNat * 12)).block, (ad225.add (((ji8)).toNat * 12)).off + 5, none⟩ = some (.int .i64 ((rd_T30 l0 (ji8)).f3.f0)) ∧ w'.cell? ⟨(ad225.add (((ji8)).toNat * 12)).block, (ad225.add (((ji8)).toNat * 12)).off + 6, none⟩ = some (.int .i64 ((rd_T30 l0 (ji8)).f3.f1)) ∧ w'.cell? ⟨(ad225.add (((ji8)).toNat * 12)).block, (ad225.add (((ji8)).toNat * 12)).off + 7, none⟩ = some (.int .i64 ((rd_T30 l0 (ji8)).f4.f0)) ∧ w'.cell? ⟨(ad225.add (((ji8)).toNat * 12)).block, (ad225.add (((ji8)).toNat * 12)).off + 8, none⟩ = some (.int .i64 ((rd_T30 l0 (ji8)).f4.f1)) ∧ w'.cell? ⟨(ad225.add (((ji8)).toNat * 12)).block, (ad225.add (((ji8)).toNat * 12)).off + 9, none⟩ = some (.int .i64 ((rd_T30 l0 (ji8)).f5)) ∧ w'.cell? ⟨(ad225.add (((ji8)).toNat * 12)).block, (ad225.add (((ji8)).toNat * 12)).off + 10, none⟩ = some (.bool ((rd_T30 l0 (ji8)).f6)) ∧ w'.cell? ⟨(ad225.add (((ji8)).toNat * 12)).block, (ad225.add (((ji8)).toNat * 12)).off + 11, none⟩ = some (.string ((rd_T30 l0 (ji8)).f7))) (ds := []) qx17_0 (by kernel_rfl) rfl rfl ⟨(blk_cell BK226.out 0).trans rfl, (blk_cell BK226.out 1).trans rfl, (blk_cell BK226.out 2).trans rfl, (blk_cell BK226.out 3).trans rfl, (blk_cell BK226.out 4).trans rfl, (blk_cell BK226.out 5).trans rfl, (blk_cell BK226.out 6).trans rfl, (blk_cell BK226.out 7).trans rfl, (blk_cell BK226.out 8).trans rfl, (blk_cell BK226.out 9).trans rfl, (blk_cell BK226.out 10).trans rfl, (blk_cell BK226.out 11).trans rfl, ((HB.out.cell (World.block_lt_of_cell? w _ hw228_0)).trans hw228_0), ((HB.out.cell (World.block_lt_of_cell? w _ hw228_1)).trans hw228_1), ((HB.out.cell (World.block_lt_of_cell? w _ hw228_2)).trans hw228_2), ((HB.out.cell (World.block_lt_of_cell? w _ hw228_3)).trans hw228_3), ((HB.out.cell (World.block_lt_of_cell? w _ hw228_4)).trans hw228_4), ((HB.out.cell (World.block_lt_of_cell? w _ hw228_5)).trans hw228_5), ((HB.out.cell (World.block_lt_of_cell? w _ hw228_6)).trans hw228_6), ((HB.out.cell (World.block_lt_of_cell? w _ hw228_7)).trans hw228_7), ((HB.out.cell (World.block_lt_of_cell? w _ hw228_8)).trans hw228_8), ((HB.out.cell (World.block_lt_of_cell? w _ hw228_9)).trans hw228_9), ((HB.out.cell (World.block_lt_of_cell? w _ hw228_10)).trans hw228_10), ((HB.out.cell (World.block_lt_of_cell? w _ hw228_11)).trans hw228_11)⟩ (fun hHeld => ?_); refine with_tabW impl_ValidLog.tab4 impl_ValidLog.bits4 (fun HT_ HW_ => ?_)
           generalize w15.drew = w16 at BK226 HB hx228_0 hx228_1 hx228_10 hx228_11 hx228_2 hx228_3 hx228_4 hx228_5 hx228_6 hx228_7 hx228_8 hx228_9 hHeld ⊢
           refine take_ (i := 0) (N := some 12) (v := ?_) (a' := ?_) qx17_1 rfl rfl (take_ofW HT_.out HW_.out (by kernel_rfl)) (fun _ _ _ h => h) (Or.inl ⟨by rfl, ?_⟩) hHeld ?_ ?_
           rotate_left
           ·rintro w' ⟨s0, s1, s2, s3, s4, s5, s6, s7, s8, s9, s10, s11, s12, s13, s14, s15, s16, s17, s18, s19, s20, s21, s22, s23⟩
            go_simp
            with_reducible rfl
           rotate_left
           ·simp only [putS]
            rfl
           refine one_ (i := 1) (N := some 13) qx17_2 rfl rfl (one_of HT_.out (by kernel_rfl)) (by decide) (fun K hK => ?_)
           refine goes_ Try.func14 (by kernel_rfl) rfl #[.agg #[.int .i64 ((rd_T30 l0 x7_1).f0.f0), .int .i64 ((rd_T30 l0 x7_1).f0.f1), .int .i64 ((rd_T30 l0 x7_1).f1), .int .i64 ((rd_T30 l0 x7_1).f2.f0), .int .i64 ((rd_T30 l0 x7_1).f2.f1), .int .i64 ((rd_T30 l0 x7_1).f3.f0), .int .i64 ((rd_T30 l0 x7_1).f3.f1), .int .i64 ((rd_T30 l0 x7_1).f4.f0), .int .i64 ((rd_T30 l0 x7_1).f4.f1), .int .i64 ((rd_T30 l0 x7_1).f5), .bool ((rd_T30 l0 x7_1).f6), .string ((rd_T30 l0 x7_1).f7)]] (by rfl) rfl rfl (by (try simp only [List.map_toArray, List.map_cons, List.map_nil]); first | done | rfl | (simp only [List.length_drop, List.length_take]; rfl)) ?_
           with_reducible refine (impl_ValidOp.calls ((rd_T30 l0 x7_1).f0.f0) ((rd_T30 l0 x7_1).f0.f1) ((rd_T30 l0 x7_1).f1) ((rd_T30 l0 x7_1).f2.f0) ((rd_T30 l0 x7_1).f2.f1) ((rd_T30 l0 x7_1).f3.f0) ((rd_T30 l0 x7_1).f3.f1) ((rd_T30 l0 x7_1).f4.f0) ((rd_T30 l0 x7_1).f4.f1) ((rd_T30 l0 x7_1).f5) ((rd_T30 l0 x7_1).f6) ((rd_T30 l0 x7_1).f7) true _ A5.out).mono ?_
           rintro e w17 ⟨rfl, hb⟩
           refine ⟨_, rfl, ?_⟩
           have n0_ := Aside0.mk (blk_below (g := gb226) (o := .cells #[.int .i64 ((rd_T30 l0 x7_1).f0.f0), .int .i64 ((rd_T30 l0 x7_1).f0.f1), .int .i64 ((rd_T30 l0 x7_1).f1), .int .i64 ((rd_T30 l0 x7_1).f2.f0), .int .i64 ((rd_T30 l0 x7_1).f2.f1), .int .i64 ((rd_T30 l0 x7_1).f3.f0), .int .i64 ((rd_T30 l0 x7_1).f3.f1), .int .i64 ((rd_T30 l0 x7_1).f4.f0), .int .i64 ((rd_T30 l0 x7_1).f4.f1), .int .i64 ((rd_T30 l0 x7_1).f5), .bool ((rd_T30 l0 x7_1).f6), .string ((rd_T30 l0 x7_1).f7)] 30 (0, 0)) (by (with_reducible repeat (first | refine blk_drewN ?_ _ | refine blk_drew ?_ | refine blk_alloc ?_ _)); exact BK226.out) hb)
           have n1_ := Aside0.mk (below_step (by repeat (first | (with_reducible first | exact HB.out | apply below_alloc | apply pw_below_drewN | apply below_drew1 | refine below_set ?_ GE226.out) | exact HB.out)) hb)
           clear BK226
           clear HB
           have BK226 := n0_
           have HB := n1_
           clear n0_ n1_
           (try clear hb)
           (try clear hb2)
           (try clear hk)
           (try clear hi)
           refine hK.out _ _ ⟨(blk_cell BK226.out 0).trans rfl, (blk_cell BK226.out 1).trans rfl, (blk_cell BK226.out 2).trans rfl, (blk_cell BK226.out 3).trans rfl, (blk_cell BK226.out 4).trans rfl, (blk_cell BK226.out 5).trans rfl, (blk_cell BK226.out 6).trans rfl, (blk_cell BK226.out 7).trans rfl, (blk_cell BK226.out 8).trans rfl, (blk_cell BK226.out 9).trans rfl, (blk_cell BK226.out 10).trans rfl, (blk_cell BK226.out 11).trans rfl, ((HB.out.cell (World.block_lt_of_cell? w _ hw228_0)).trans hw228_0), ((HB.out.cell (World.block_lt_of_cell? w _ hw228_1)).trans hw228_1), ((HB.out.cell (World.block_lt_of_cell? w _ hw228_2)).trans hw228_2), ((HB.out.cell (World.block_lt_of_cell? w _ hw228_3)).trans hw228_3), ((HB.out.cell (World.block_lt_of_cell? w _ hw228_4)).trans hw228_4), ((HB.out.cell (World.block_lt_of_cell? w _ hw228_5)).trans hw228_5), ((HB.out.cell (World.block_lt_of_cell? w _ hw228_6)).trans hw228_6), ((HB.out.cell (World.block_lt_of_cell? w _ hw228_7)).trans hw228_7), ((HB.out.cell (World.block_lt_of_cell? w _ hw228_8)).trans hw228_8), ((HB.out.cell (World.block_lt_of_cell? w _ hw228_9)).trans hw228_9), ((HB.out.cell (World.block_lt_of_cell? w _ hw228_10)).trans hw228_10), ((HB.out.cell (World.block_lt_of_cell? w _ hw228_11)).trans hw228_11)⟩ (fun hHeld => ?_)
           clear hK K
           refine norm_ (a' := ?_) ?_ ?_
           rotate_left
           ·show Act.put _ (some 13) _ = _
            simp only [putS]
            rfl
           refine pure_ (i := 2) (N := some 14) (v := ?_) (a' := ?_) qx17_3 rfl rfl (any_of HT_.out (by kernel_rfl)) (fun _ _ _ h => h) (Or.inl ⟨by rfl, ?_⟩) ?_ ?_
           rotate_left
           ·intro w'
            go_simp
            with_reducible rfl
           rotate_left
           ·simp only [putS]
            rfl
           refine pure_ (i := 3) (N := some 15) (v := ?_) (a' := ?_) qx17_4 rfl rfl (any_of HT_.out (by kernel_rfl)) (fun _ _ _ h => h) (Or.inl ⟨by rfl, ?_⟩) ?_ ?_
           rotate_left
           ·intro w'
            go_simp
            with_reducible rfl
           rotate_left
           ·simp only [putS]
            rfl
           refine pure_ (i := 4) (N := some 16) (v := ?_) (a' := ?_) qx17_5 rfl rfl (any_of HT_.out (by kernel_rfl)) (fun _ _ _ h => h) (Or.inl ⟨by rfl, ?_⟩) ?_ ?_
           rotate_left
           ·intro w'
            go_simp
            with_reducible rfl
           rotate_left
           ·simp only [putS]
            rfl
           refine pure_ (i := 5) (N := some 17) (v := ?_) (a' := ?_) qx17_6 rfl rfl (any_of HT_.out (by kernel_rfl)) (fun _ _ _ h => h) (Or.inl ⟨by rfl, ?_⟩) ?_ ?_
           rotate_left
           ·intro w'
            go_simp
            with_reducible rfl
           rotate_left
           ·simp only [putS]
            rfl
           refine pure_ (i := 6) (N := some 18) (v := ?_) (a' := ?_) qx17_7 rfl rfl (any_of HT_.out (by kernel_rfl)) (fun _ _ _ h => h) (Or.inl ⟨by rfl, ?_⟩) ?_ ?_
           rotate_left
           ·intro w'
            go_simp
            with_reducible rfl
           rotate_left
           ·simp only [putS]
            rfl
           refine pure_ (i := 7) (N := some 19) (v := ?_) (a' := ?_) qx17_8 rfl rfl (any_of HT_.out (by kernel_rfl)) (fun _ _ _ h => h) (Or.inl ⟨by rfl, ?_⟩) ?_ ?_
           rotate_left
           ·intro w'
            go_simp
            with_reducible rfl
           rotate_left
           ·simp only [putS]
            rfl
           refine pure_ (i := 8) (N := some 20) (v := ?_) (a' := ?_) qx17_9 rfl rfl (any_of HT_.out (by kernel_rfl)) (fun _ _ _ h => h) (Or.inl ⟨by rfl, ?_⟩) ?_ ?_
           rotate_left
           ·intro w'
            go_simp
            with_reducible rfl
           rotate_left
           ·simp only [putS]
            rfl
           refine pure_ (i := 9) (N := some 21) (v := ?_) (a' := ?_) qx17_10 rfl rfl (any_of HT_.out (by kernel_rfl)) (fun _ _ _ h => h) (Or.inl ⟨by rfl, ?_⟩) ?_ ?_
           rotate_left
           ·intro w'
            go_simp
            with_reducible rfl
           rotate_left
           ·simp only [putS]
            rfl
           refine pure_ (i := 10) (N := some 22) (v := ?_) (a' := ?_) qx17_11 rfl rfl (any_of HT_.out (by kernel_rfl)) (fun _ _ _ h => h) (Or.inl ⟨by rfl, ?_⟩) ?_ ?_
           rotate_left
           ·intro w'
            go_simp
            with_reducible rfl
           rotate_left
           ·simp only [putS]
            rfl
           refine pure_ (i := 11) (N := some 23) (v := ?_) (a' := ?_) qx17_12 rfl rfl (any_of HT_.out (by kernel_rfl)) (fun _ _ _ h => h) (Or.inl ⟨by rfl, ?_⟩) ?_ ?_
           rotate_left
           ·intro w'
            go_simp
            with_reducible rfl
           rotate_left
           ·simp only [putS]
            rfl
           refine pure_ (i := 13) (N := some 25) (v := ?_) (a' := ?_) qx17_19 rfl rfl (any_of HT_.out (by kernel_rfl)) (fun _ _ _ h => h) (Or.inl ⟨by rfl, ?_⟩) ?_ ?_
           rotate_left
           ·intro w'
            go_simp
            with_reducible rfl
           rotate_left
           ·simp only [putS]
            rfl
           refine take_ (i := 12) (N := some 24) (v := ?_) (a' := ?_) qx17_13 rfl rfl (take_ofW HT_.out HW_.out (by kernel_rfl)) (fun _ _ _ h => h) (Or.inl ⟨by rfl, ?_⟩) hHeld ?_ ?_
           rotate_left
           ·rintro w' ⟨s0, s1, s2, s3, s4, s5, s6, s7, s8, s9, s10, s11, s12, s13, s14, s15, s16, s17, s18, s19, s20, s21, s22, s23⟩
            go_simp
            with_reducible rfl
           rotate_left
           ·simp only [putS]
            rfl
           refine take_ (i := 14) (N := some 26) (v := ?_) (a' := ?_) qx17_14 rfl rfl (take_ofW HT_.out HW_.out (by kernel_rfl)) (fun _ _ _ h => h) (Or.inl ⟨by rfl, ?_⟩) hHeld ?_ ?_
           rotate_left
           ·rintro w' ⟨s0, s1, s2, s3, s4, s5, s6, s7, s8, s9, s10, s11, s12, s13, s14, s15, s16, s17, s18, s19, s20, s21, s22, s23⟩
            go_simp
            with_reducible rfl
           rotate_left
           ·simp only [putS]
            rfl
           refine one_ (i := 15) (N := some 27) qx17_15 rfl rfl (one_of HT_.out (by kernel_rfl)) (by decide) (fun K hK => ?_)
           refine goes_ Try.func45 (by kernel_rfl) rfl #[.agg #[.int .i64 ((rd_T30 l0 (ji8)).f0.f0), .int .i64 ((rd_T30 l0 (ji8)).f0.f1)], .agg #[.int .i64 ((rd_T30 l0 x7_1).f0.f0), .int .i64 ((rd_T30 l0 x7_1).f0.f1)]] (by rfl) rfl rfl (by (try simp only [List.map_toArray, List.map_cons, List.map_nil]); first | done | (simp only [hji8]; rfl) | rfl | (simp only [List.length_drop, List.length_take]; rfl)) ?_
           with_reducible refine (impl_StampLess.calls ((rd_T30 l0 (ji8)).f0.f0) ((rd_T30 l0 (ji8)).f0.f1) ((rd_T30 l0 x7_1).f0.f0) ((rd_T30 l0 x7_1).f0.f1) true _ A11.out).mono ?_
           rintro e w18 ⟨rfl, hb⟩
           refine ⟨_, rfl, ?_⟩
           have n0_ := Aside0.mk (blk_below (g := gb226) (o := .cells #[.int .i64 ((rd_T30 l0 x7_1).f0.f0), .int .i64 ((rd_T30 l0 x7_1).f0.f1), .int .i64 ((rd_T30 l0 x7_1).f1), .int .i64 ((rd_T30 l0 x7_1).f2.f0), .int .i64 ((rd_T30 l0 x7_1).f2.f1), .int .i64 ((rd_T30 l0 x7_1).f3.f0), .int .i64 ((rd_T30 l0 x7_1).f3.f1), .int .i64 ((rd_T30 l0 x7_1).f4.f0), .int .i64 ((rd_T30 l0 x7_1).f4.f1), .int .i64 ((rd_T30 l0 x7_1).f5), .bool ((rd_T30 l0 x7_1).f6), .string ((rd_T30 l0 x7_1).f7)] 30 (0, 0)) (by (with_reducible repeat (first | refine blk_drewN ?_ _ | refine blk_drew ?_ | refine blk_alloc ?_ _)); exact BK226.out) hb)
           have n1_ := Aside0.mk (below_step (by repeat (first | (with_reducible first | exact HB.out | apply below_alloc | apply pw_below_drewN | apply below_drew1 | refine below_set ?_ GE226.out) | exact HB.out)) hb)
           clear BK226
           clear HB
           have BK226 := n0_
           have HB := n1_
           clear n0_ n1_
           (try clear hb)
           (try clear hb2)
           (try clear hk)
           (try clear hi)
           refine hK.out _ _ ⟨(blk_cell BK226.out 0).trans rfl, (blk_cell BK226.out 1).trans rfl, (blk_cell BK226.out 2).trans rfl, (blk_cell BK226.out 3).trans rfl, (blk_cell BK226.out 4).trans rfl, (blk_cell BK226.out 5).trans rfl, (blk_cell BK226.out 6).trans rfl, (blk_cell BK226.out 7).trans rfl, (blk_cell BK226.out 8).trans rfl, (blk_cell BK226.out 9).trans rfl, (blk_cell BK226.out 10).trans rfl, (blk_cell BK226.out 11).trans rfl, ((HB.out.cell (World.block_lt_of_cell? w _ hw228_0)).trans hw228_0), ((HB.out.cell (World.block_lt_of_cell? w _ hw228_1)).trans hw228_1), ((HB.out.cell (World.block_lt_of_cell? w _ hw228_2)).trans hw228_2), ((HB.out.cell (World.block_lt_of_cell? w _ hw228_3)).trans hw228_3), ((HB.out.cell (World.block_lt_of_cell? w _ hw228_4)).trans hw228_4), ((HB.out.cell (World.block_lt_of_cell? w _ hw228_5)).trans hw228_5), ((HB.out.cell (World.block_lt_of_cell? w _ hw228_6)).trans hw228_6), ((HB.out.cell (World.block_lt_of_cell? w _ hw228_7)).trans hw228_7), ((HB.out.cell (World.block_lt_of_cell? w _ hw228_8)).trans hw228_8), ((HB.out.cell (World.block_lt_of_cell? w _ hw228_9)).trans hw228_9), ((HB.out.cell (World.block_lt_of_cell? w _ hw228_10)).trans hw228_10), ((HB.out.cell (World.block_lt_of_cell? w _ hw228_11)).trans hw228_11)⟩ (fun hHeld => ?_)
           clear hK K
           refine norm_ (a' := ?_) ?_ ?_
           rotate_left
           ·show Act.put _ (some 27) _ = _
            simp only [putS]
            rfl
           refine pure_ (i := 16) (N := some 28) (v := ?_) (a' := ?_) qx17_16 rfl rfl (any_of HT_.out (by kernel_rfl)) (fun _ _ _ h => h) (Or.inl ⟨by rfl, ?_⟩) ?_ ?_
           rotate_left
           ·intro w'
            go_simp
            with_reducible rfl
           rotate_left
           ·simp only [putS]
            rfl
           refine pure_ (i := 17) (N := some 29) (v := ?_) (a' := ?_) qx17_17 rfl rfl (any_of HT_.out (by kernel_rfl)) (fun _ _ _ h => h) (Or.inl ⟨by rfl, ?_⟩) ?_ ?_
           rotate_left
           ·intro w'
            go_simp
            with_reducible rfl
           rotate_left
           ·simp only [putS]
            rfl
           refine pure_ (i := 18) (N := some 30) (v := ?_) (a' := ?_) qx17_18 rfl rfl (any_of HT_.out (by kernel_rfl)) (fun _ _ _ h => h) (Or.inl ⟨by rfl, ?_⟩) ?_ ?_
           rotate_left
           ·intro w'
            go_simp
            with_reducible rfl
           rotate_left
           ·simp only [putS]
            rfl
           refine done_ (done_of HT_.out (by kernel_rfl)) ?_
           try go_wp2
           go_roundg k1
           case measure => have := HK1.out; omega
           case rel => exact ⟨(wrap64 (x7_1 + 1)), (by first | rfl | (simp; done) | (simp [*]; done)), H', ⟨by have := HK1.out; omega⟩, ⟨by repeat (first | (with_reducible first | exact HB.out | apply below_alloc | apply pw_below_drewN | apply below_drew1 | refine below_set ?_ GE226.out) | exact HB.out)⟩⟩
          ·replace c12 := Bool.eq_false_iff.mpr c12
           subst c12
           have H1 : (some false) = some r := by rw [if_neg (show ¬ (false = true) by decide)] at H; exact H
           clear H
           have H := H1
           clear H1
           obtain rfl := Option.some.inj H
           have p225 : 0 ≤ (x7_1 : Int) := of_decide_eq_true (by first | (with_reducible assumption) | assumption)
           have q225 : x7_1 < (l0.length : Int) := of_decide_eq_true (by first | (with_reducible assumption) | assumption)
           obtain ⟨ad225, e225, hx225_0, hx225_1, hx225_2, hx225_3, hx225_4, hx225_5, hx225_6, hx225_7, hx225_8, hx225_9, hx225_10, hx225_11⟩ := at_T30 HR0.out x7_1 p225 q225
           cases e225
           replace hx225_0 := cellUp HB.out hx225_0
           replace hx225_1 := cellUp HB.out hx225_1
           replace hx225_2 := cellUp HB.out hx225_2
           replace hx225_3 := cellUp HB.out hx225_3
           replace hx225_4 := cellUp HB.out hx225_4
           replace hx225_5 := cellUp HB.out hx225_5
           replace hx225_6 := cellUp HB.out hx225_6
           replace hx225_7 := cellUp HB.out hx225_7
           replace hx225_8 := cellUp HB.out hx225_8
           replace hx225_9 := cellUp HB.out hx225_9
           replace hx225_10 := cellUp HB.out hx225_10
           replace hx225_11 := cellUp HB.out hx225_11
           replace p225 := eq_true p225
           replace q225 := eq_true q225
           try go_wp2_with (first | ((with_reducible refine gate_dst (N := 4) rfl ?_); refine box_event ?hg (N := 4) ?hd (cs := #[.int .i64 0, .int .i64 0, .int .i64 0, .int .i64 0, .int .i64 0, .int .i64 0, .int .i64 0, .int .i64 0, .int .i64 0, .int .i64 0, .bool false, .string (⟨#[]⟩ : ByteArray)]) (t := 30) ?hr ?_; (case hd => rfl); (case hg => rfl); (case hr => first | (go_simp; done) | (go_simp; rfl)); intro gb226 hg w19 hbox hb; have n0_ := Aside0.mk (below_step (by repeat (first | (with_reducible first | exact HB.out | apply below_alloc | apply pw_below_drewN | apply below_drew1) | exact HB.out)) hb); have n1_ := Aside0.mk (hbox); have n2_ := Aside0.mk ((by rw [hg]; exact (below_size (by repeat (first | (with_reducible first | exact HB.out | apply below_alloc | apply pw_below_drewN | apply below_drew1) | exact HB.out))) : w.heap.size ≤ gb226)); have n3_ := Aside0.mk ((by rw [hg]; exact (below_size (by repeat (first | (with_reducible first | exact HB.out | apply below_alloc | apply pw_below_drewN | apply below_drew1) | exact HB.out))) : w.heap.size ≤ gb226)); clear HB; have HB := n0_; have BK226 := n1_; have GW226 := n2_; have GE226 := n3_; clear n0_ n1_ n2_ n3_; clear hb hbox hg; have hcz20_0 : w19.cell? ⟨gb226, 0, none⟩ = some (.int .i64 0) := (blk_cell BK226.out 0).trans rfl; have hcz20_1 : w19.cell? ⟨gb226, 1, none⟩ = some (.int .i64 0) := (blk_cell BK226.out 1).trans rfl; have hcz20_2 : w19.cell? ⟨gb226, 2, none⟩ = some (.int .i64 0) := (blk_cell BK226.out 2).trans rfl; have hcz20_3 : w19.cell? ⟨gb226, 3, none⟩ = some (.int .i64 0) := (blk_cell BK226.out 3).trans rfl; have hcz20_4 : w19.cell? ⟨gb226, 4, none⟩ = some (.int .i64 0) := (blk_cell BK226.out 4).trans rfl; have hcz20_5 : w19.cell? ⟨gb226, 5, none⟩ = some (.int .i64 0) := (blk_cell BK226.out 5).trans rfl; have hcz20_6 : w19.cell? ⟨gb226, 6, none⟩ = some (.int .i64 0) := (blk_cell BK226.out 6).trans rfl; have hcz20_7 : w19.cell? ⟨gb226, 7, none⟩ = some (.int .i64 0) := (blk_cell BK226.out 7).trans rfl; have hcz20_8 : w19.cell? ⟨gb226, 8, none⟩ = some (.int .i64 0) := (blk_cell BK226.out 8).trans rfl; have hcz20_9 : w19.cell? ⟨gb226, 9, none⟩ = some (.int .i64 0) := (blk_cell BK226.out 9).trans rfl; have hcz20_10 : w19.cell? ⟨gb226, 10, none⟩ = some (.bool false) := (blk_cell BK226.out 10).trans rfl; have hcz20_11 : w19.cell? ⟨gb226, 11, none⟩ = some (.string (⟨#[]⟩ : ByteArray)) := (blk_cell BK226.out 11).trans rfl; have hfz20_0 := blk_frozen BK226.out 0; have hfz20_1 := blk_frozen BK226.out 1; have hfz20_2 := blk_frozen BK226.out 2; have hfz20_3 := blk_frozen BK226.out 3; have hfz20_4 := blk_frozen BK226.out 4; have hfz20_5 := blk_frozen BK226.out 5; have hfz20_6 := blk_frozen BK226.out 6; have hfz20_7 := blk_frozen BK226.out 7; have hfz20_8 := blk_frozen BK226.out 8; have hfz20_9 := blk_frozen BK226.out 9; have hfz20_10 := blk_frozen BK226.out 10; have hfz20_11 := blk_frozen BK226.out 11))
           have n0_ : Aside0 (((((((((((((w19.setCell ⟨gb226, 0, none⟩ (.int .i64 ((rd_T30 l0 x7_1).f0.f0))).setCell ⟨gb226, 1, none⟩ (.int .i64 ((rd_T30 l0 x7_1).f0.f1))).setCell ⟨gb226, 2, none⟩ (.int .i64 ((rd_T30 l0 x7_1).f1))).setCell ⟨gb226, 3, none⟩ (.int .i64 ((rd_T30 l0 x7_1).f2.f0))).setCell ⟨gb226, 4, none⟩ (.int .i64 ((rd_T30 l0 x7_1).f2.f1))).setCell ⟨gb226, 5, none⟩ (.int .i64 ((rd_T30 l0 x7_1).f3.f0))).setCell ⟨gb226, 6, none⟩ (.int .i64 ((rd_T30 l0 x7_1).f3.f1))).setCell ⟨gb226, 7, none⟩ (.int .i64 ((rd_T30 l0 x7_1).f4.f0))).setCell ⟨gb226, 8, none⟩ (.int .i64 ((rd_T30 l0 x7_1).f4.f1))).setCell ⟨gb226, 9, none⟩ (.int .i64 ((rd_T30 l0 x7_1).f5))).setCell ⟨gb226, 10, none⟩ (.bool ((rd_T30 l0 x7_1).f6))).setCell ⟨gb226, 11, none⟩ (.string ((rd_T30 l0 x7_1).f7))).heap[gb226]? = some (.cells #[.int .i64 ((rd_T30 l0 x7_1).f0.f0), .int .i64 ((rd_T30 l0 x7_1).f0.f1), .int .i64 ((rd_T30 l0 x7_1).f1), .int .i64 ((rd_T30 l0 x7_1).f2.f0), .int .i64 ((rd_T30 l0 x7_1).f2.f1), .int .i64 ((rd_T30 l0 x7_1).f3.f0), .int .i64 ((rd_T30 l0 x7_1).f3.f1), .int .i64 ((rd_T30 l0 x7_1).f4.f0), .int .i64 ((rd_T30 l0 x7_1).f4.f1), .int .i64 ((rd_T30 l0 x7_1).f5), .bool ((rd_T30 l0 x7_1).f6), .string ((rd_T30 l0 x7_1).f7)] 30 (0, 0))) := ⟨by (with_reducible repeat (first | refine blk_drewN ?_ _ | refine blk_drew ?_ | refine blk_alloc ?_ _)); refine blk_put (cs := #[.int .i64 ((rd_T30 l0 x7_1).f0.f0), .int .i64 ((rd_T30 l0 x7_1).f0.f1), .int .i64 ((rd_T30 l0 x7_1).f1), .int .i64 ((rd_T30 l0 x7_1).f2.f0), .int .i64 ((rd_T30 l0 x7_1).f2.f1), .int .i64 ((rd_T30 l0 x7_1).f3.f0), .int .i64 ((rd_T30 l0 x7_1).f3.f1), .int .i64 ((rd_T30 l0 x7_1).f4.f0), .int .i64 ((rd_T30 l0 x7_1).f4.f1), .int .i64 ((rd_T30 l0 x7_1).f5), .bool ((rd_T30 l0 x7_1).f6), .string (⟨#[]⟩ : ByteArray)]) ?_ 11 _ rfl; (with_reducible repeat (first | refine blk_drewN ?_ _ | refine blk_drew ?_ | refine blk_alloc ?_ _)); refine blk_put (cs := #[.int .i64 ((rd_T30 l0 x7_1).f0.f0), .int .i64 ((rd_T30 l0 x7_1).f0.f1), .int .i64 ((rd_T30 l0 x7_1).f1), .int .i64 ((rd_T30 l0 x7_1).f2.f0), .int .i64 ((rd_T30 l0 x7_1).f2.f1), .int .i64 ((rd_T30 l0 x7_1).f3.f0), .int .i64 ((rd_T30 l0 x7_1).f3.f1), .int .i64 ((rd_T30 l0 x7_1).f4.f0), .int .i64 ((rd_T30 l0 x7_1).f4.f1), .int .i64 ((rd_T30 l0 x7_1).f5), .bool false, .string (⟨#[]⟩ : ByteArray)]) ?_ 10 _ rfl; (with_reducible repeat (first | refine blk_drewN ?_ _ | refine blk_drew ?_ | refine blk_alloc ?_ _)); refine blk_put (cs := #[.int .i64 ((rd_T30 l0 x7_1).f0.f0), .int .i64 ((rd_T30 l0 x7_1).f0.f1), .int .i64 ((rd_T30 l0 x7_1).f1), .int .i64 ((rd_T30 l0 x7_1).f2.f0), .int .i64 ((rd_T30 l0 x7_1).f2.f1), .int .i64 ((rd_T30 l0 x7_1).f3.f0), .int .i64 ((rd_T30 l0 x7_1).f3.f1), .int .i64 ((rd_T30 l0 x7_1).f4.f0), .int .i64 ((rd_T30 l0 x7_1).f4.f1), .int .i64 0, .bool false, .string (⟨#[]⟩ : ByteArray)]) ?_ 9 _ rfl; (with_reducible repeat (first | refine blk_drewN ?_ _ | refine blk_drew ?_ | refine blk_alloc ?_ _)); refine blk_put (cs := #[.int .i64 ((rd_T30 l0 x7_1).f0.f0), .int .i64 ((rd_T30 l0 x7_1).f0.f1), .int .i64 ((rd_T30 l0 x7_1).f1), .int .i64 ((rd_T30 l0 x7_1).f2.f0), .int .i64 ((rd_T30 l0 x7_1).f2.f1), .int .i64 ((rd_T30 l0 x7_1).f3.f0), .int .i64 ((rd_T30 l0 x7_1).f3.f1), .int .i64 ((rd_T30 l0 x7_1).f4.f0), .int .i64 0, .int .i64 0, .bool false, .string (⟨#[]⟩ : ByteArray)]) ?_ 8 _ rfl; (with_reducible repeat (first | refine blk_drewN ?_ _ | refine blk_drew ?_ | refine blk_alloc ?_ _)); refine blk_put (cs := #[.int .i64 ((rd_T30 l0 x7_1).f0.f0), .int .i64 ((rd_T30 l0 x7_1).f0.f1), .int .i64 ((rd_T30 l0 x7_1).f1), .int .i64 ((rd_T30 l0 x7_1).f2.f0), .int .i64 ((rd_T30 l0 x7_1).f2.f1), .int .i64 ((rd_T30 l0 x7_1).f3.f0), .int .i64 ((rd_T30 l0 x7_1).f3.f1), .int .i64 0, .int .i64 0, .int .i64 0, .bool false, .string (⟨#[]⟩ : ByteArray)]) ?_ 7 _ rfl; (with_reducible repeat (first | refine blk_drewN ?_ _ | refine blk_drew ?_ | refine blk_alloc ?_ _)); refine blk_put (cs := #[.int .i64 ((rd_T30 l0 x7_1).f0.f0), .int .i64 ((rd_T30 l0 x7_1).f0.f1), .int .i64 ((rd_T30 l0 x7_1).f1), .int .i64 ((rd_T30 l0 x7_1).f2.f0), .int .i64 ((rd_T30 l0 x7_1).f2.f1), .int .i64 ((rd_T30 l0 x7_1).f3.f0), .int .i64 0, .int .i64 0, .int .i64 0, .int .i64 0, .bool false, .string (⟨#[]⟩ : ByteArray)]) ?_ 6 _ rfl; (with_reducible repeat (first | refine blk_drewN ?_ _ | refine blk_drew ?_ | refine blk_alloc ?_ _)); refine blk_put (cs := #[.int .i64 ((rd_T30 l0 x7_1).f0.f0), .int .i64 ((rd_T30 l0 x7_1).f0.f1), .int .i64 ((rd_T30 l0 x7_1).f1), .int .i64 ((rd_T30 l0 x7_1).f2.f0), .int .i64 ((rd_T30 l0 x7_1).f2.f1), .int .i64 0, .int .i64 0, .int .i64 0, .int .i64 0, .int .i64 0, .bool false, .string (⟨#[]⟩ : ByteArray)]) ?_ 5 _ rfl; (with_reducible repeat (first | refine blk_drewN ?_ _ | refine blk_drew ?_ | refine blk_alloc ?_ _)); refine blk_put (cs := #[.int .i64 ((rd_T30 l0 x7_1).f0.f0), .int .i64 ((rd_T30 l0 x7_1).f0.f1), .int .i64 ((rd_T30 l0 x7_1).f1), .int .i64 ((rd_T30 l0 x7_1).f2.f0), .int .i64 0, .int .i64 0, .int .i64 0, .int .i64 0, .int .i64 0, .int .i64 0, .bool false, .string (⟨#[]⟩ : ByteArray)]) ?_ 4 _ rfl; (with_reducible repeat (first | refine blk_drewN ?_ _ | refine blk_drew ?_ | refine blk_alloc ?_ _)); refine blk_put (cs := #[.int .i64 ((rd_T30 l0 x7_1).f0.f0), .int .i64 ((rd_T30 l0 x7_1).f0.f1), .int .i64 ((rd_T30 l0 x7_1).f1), .int .i64 0, .int .i64 0, .int .i64 0, .int .i64 0, .int .i64 0, .int .i64 0, .int .i64 0, .bool false, .string (⟨#[]⟩ : ByteArray)]) ?_ 3 _ rfl; (with_reducible repeat (first | refine blk_drewN ?_ _ | refine blk_drew ?_ | refine blk_alloc ?_ _)); refine blk_put (cs := #[.int .i64 ((rd_T30 l0 x7_1).f0.f0), .int .i64 ((rd_T30 l0 x7_1).f0.f1), .int .i64 0, .int .i64 0, .int .i64 0, .int .i64 0, .int .i64 0, .int .i64 0, .int .i64 0, .int .i64 0, .bool false, .string (⟨#[]⟩ : ByteArray)]) ?_ 2 _ rfl; (with_reducible repeat (first | refine blk_drewN ?_ _ | refine blk_drew ?_ | refine blk_alloc ?_ _)); refine blk_put (cs := #[.int .i64 ((rd_T30 l0 x7_1).f0.f0), .int .i64 0, .int .i64 0, .int .i64 0, .int .i64 0, .int .i64 0, .int .i64 0, .int .i64 0, .int .i64 0, .int .i64 0, .bool false, .string (⟨#[]⟩ : ByteArray)]) ?_ 1 _ rfl; (with_reducible repeat (first | refine blk_drewN ?_ _ | refine blk_drew ?_ | refine blk_alloc ?_ _)); refine blk_put (cs := #[.int .i64 0, .int .i64 0, .int .i64 0, .int .i64 0, .int .i64 0, .int .i64 0, .int .i64 0, .int .i64 0, .int .i64 0, .int .i64 0, .bool false, .string (⟨#[]⟩ : ByteArray)]) ?_ 0 _ rfl; (with_reducible repeat (first | refine blk_drewN ?_ _ | refine blk_drew ?_ | refine blk_alloc ?_ _)); exact BK226.out⟩
           have n1_ : Aside0 (Below w.heap.size w ((((((((((((w19.setCell ⟨gb226, 0, none⟩ (.int .i64 ((rd_T30 l0 x7_1).f0.f0))).setCell ⟨gb226, 1, none⟩ (.int .i64 ((rd_T30 l0 x7_1).f0.f1))).setCell ⟨gb226, 2, none⟩ (.int .i64 ((rd_T30 l0 x7_1).f1))).setCell ⟨gb226, 3, none⟩ (.int .i64 ((rd_T30 l0 x7_1).f2.f0))).setCell ⟨gb226, 4, none⟩ (.int .i64 ((rd_T30 l0 x7_1).f2.f1))).setCell ⟨gb226, 5, none⟩ (.int .i64 ((rd_T30 l0 x7_1).f3.f0))).setCell ⟨gb226, 6, none⟩ (.int .i64 ((rd_T30 l0 x7_1).f3.f1))).setCell ⟨gb226, 7, none⟩ (.int .i64 ((rd_T30 l0 x7_1).f4.f0))).setCell ⟨gb226, 8, none⟩ (.int .i64 ((rd_T30 l0 x7_1).f4.f1))).setCell ⟨gb226, 9, none⟩ (.int .i64 ((rd_T30 l0 x7_1).f5))).setCell ⟨gb226, 10, none⟩ (.bool ((rd_T30 l0 x7_1).f6))).setCell ⟨gb226, 11, none⟩ (.string ((rd_T30 l0 x7_1).f7)))) := ⟨by repeat (first | (with_reducible first | exact HB.out | apply below_alloc | apply pw_below_drewN | apply below_drew1 | refine below_set ?_ GE226.out) | exact HB.out)⟩
           (try clear BK226)
           (try clear HB)
           generalize ((((((((((((w19.setCell ⟨gb226, 0, none⟩ (.int .i64 ((rd_T30 l0 x7_1).f0.f0))).setCell ⟨gb226, 1, none⟩ (.int .i64 ((rd_T30 l0 x7_1).f0.f1))).setCell ⟨gb226, 2, none⟩ (.int .i64 ((rd_T30 l0 x7_1).f1))).setCell ⟨gb226, 3, none⟩ (.int .i64 ((rd_T30 l0 x7_1).f2.f0))).setCell ⟨gb226, 4, none⟩ (.int .i64 ((rd_T30 l0 x7_1).f2.f1))).setCell ⟨gb226, 5, none⟩ (.int .i64 ((rd_T30 l0 x7_1).f3.f0))).setCell ⟨gb226, 6, none⟩ (.int .i64 ((rd_T30 l0 x7_1).f3.f1))).setCell ⟨gb226, 7, none⟩ (.int .i64 ((rd_T30 l0 x7_1).f4.f0))).setCell ⟨gb226, 8, none⟩ (.int .i64 ((rd_T30 l0 x7_1).f4.f1))).setCell ⟨gb226, 9, none⟩ (.int .i64 ((rd_T30 l0 x7_1).f5))).setCell ⟨gb226, 10, none⟩ (.bool ((rd_T30 l0 x7_1).f6))).setCell ⟨gb226, 11, none⟩ (.string ((rd_T30 l0 x7_1).f7))) = w21 at n0_ n1_ ⊢
           have BK226 := n0_
           have HB := n1_
           clear n0_ n1_
           have n0_ := Aside0.mk (blk_drew BK226.out)
           have n1_ := Aside0.mk (below_drew1 HB.out)
           clear BK226
           clear HB
           have BK226 := n0_
           have HB := n1_
           clear n0_ n1_
           have p228 : 0 ≤ ((ji8) : Int) := of_decide_eq_true (by first | (with_reducible assumption) | assumption)
           have q228 : (ji8) < (l0.length : Int) := of_decide_eq_true (by first | (with_reducible assumption) | assumption)
           obtain ⟨ad228, e228, hx228_0, hx228_1, hx228_2, hx228_3, hx228_4, hx228_5, hx228_6, hx228_7, hx228_8, hx228_9, hx228_10, hx228_11⟩ := at_T30 HR0.out (ji8) p228 q228
           have hw228_11 := hx228_11
           have hw228_10 := hx228_10
           have hw228_9 := hx228_9
           have hw228_8 := hx228_8
           have hw228_7 := hx228_7
           have hw228_6 := hx228_6
           have hw228_5 := hx228_5
           have hw228_4 := hx228_4
           have hw228_3 := hx228_3
           have hw228_2 := hx228_2
           have hw228_1 := hx228_1
           have hw228_0 := hx228_0
           obtain rfl : ad225 = ad228 := (by injection e228)
           replace hx228_0 := cellUp HB.out hx228_0
           replace hx228_1 := cellUp HB.out hx228_1
           replace hx228_2 := cellUp HB.out hx228_2
           replace hx228_3 := cellUp HB.out hx228_3
           replace hx228_4 := cellUp HB.out hx228_4
           replace hx228_5 := cellUp HB.out hx228_5
           replace hx228_6 := cellUp HB.out hx228_6
           replace hx228_7 := cellUp HB.out hx228_7
           replace hx228_8 := cellUp HB.out hx228_8
           replace hx228_9 := cellUp HB.out hx228_9
           replace hx228_10 := cellUp HB.out hx228_10
           replace hx228_11 := cellUp HB.out hx228_11
           replace p228 := eq_true p228
           replace q228 := eq_true q228
           refine start_ (n := 19) (S := fun w' => w'.cell? ⟨gb226, 0, none⟩ = some (.int .i64 ((rd_T30 l0 x7_1).f0.f0)) ∧ w'.cell? ⟨gb226, 1, none⟩ = some (.int .i64 ((rd_T30 l0 x7_1).f0.f1)) ∧ w'.cell? ⟨gb226, 2, none⟩ = some (.int .i64 ((rd_T30 l0 x7_1).f1)) ∧ w'.cell? ⟨gb226, 3, none⟩ = some (.int .i64 ((rd_T30 l0 x7_1).f2.f0)) ∧ w'.cell? ⟨gb226, 4, none⟩ = some (.int .i64 ((rd_T30 l0 x7_1).f2.f1)) ∧ w'.cell? ⟨gb226, 5, none⟩ = some (.int .i64 ((rd_T30 l0 x7_1).f3.f0)) ∧ w'.cell? ⟨gb226, 6, none⟩ = some (.int .i64 ((rd_T30 l0 x7_1).f3.f1)) ∧ w'.cell? ⟨gb226, 7, none⟩ = some (.int .i64 ((rd_T30 l0 x7_1).f4.f0)) ∧ w'.cell? ⟨gb226, 8, none⟩ = some (.int .i64 ((rd_T30 l0 x7_1).f4.f1)) ∧ w'.cell? ⟨gb226, 9, none⟩ = some (.int .i64 ((rd_T30 l0 x7_1).f5)) ∧ w'.cell? ⟨gb226, 10, none⟩ = some (.bool ((rd_T30 l0 x7_1).f6)) ∧ w'.cell? ⟨gb226, 11, none⟩ = some (.string ((rd_T30 l0 x7_1).f7)) ∧ w'.cell? (ad225.add (((ji8)).toNat * 12)) = some (.int .i64 ((rd_T30 l0 (ji8)).f0.f0)) ∧ w'.cell? ⟨(ad225.add (((ji8)).toNat * 12)).block, (ad225.add (((ji8)).toNat * 12)).off + 1, none⟩ = some (.int .i64 ((rd_T30 l0 (ji8)).f0.f1)) ∧ w'.cell? ⟨(ad225.add (((ji8)).toNat * 12)).block, (ad225.add (((ji8)).toNat * 12)).off + 2, none⟩ = some (.int .i64 ((rd_T30 l0 (ji8)).f1)) ∧ w'.cell? ⟨(ad225.add (((ji8)).toNat * 12)).block, (ad225.add (((ji8)).toNat * 12)).off + 3, none⟩ = some (.int .i64 ((rd_T30 l0 (ji8)).f2.f0)) ∧ w'.cell? ⟨(ad225.add (((ji8)).toNat * 12)).block, (ad225.add (((ji8)).toNat * 12)).off + 4, none⟩ = some (.int .i64 ((rd_T30 l0 (ji8)).f2.f1)) ∧ w'.cell? ⟨(ad225.add (((ji8)).toNat * 12)).block, (ad225.add (((ji8)).toNat * 12)).off + 5, none⟩ = some (.int .i64 ((rd_T30 l0 (ji8)).f3.f0)) ∧ w'.cell? ⟨(ad225.add (((ji8)).toNat * 12)).block, (ad225.add (((ji8)).toNat * 12)).off + 6, none⟩ = some (.int .i64 ((rd_T30 l0 (ji8)).f3.f1)) ∧ w'.cell? ⟨(ad225.add (((ji8)).toNat * 12)).block, (ad225.add (((ji8)).toNat * 12)).off + 7, none⟩ = some (.int .i64 ((rd_T30 l0 (ji8)).f4.f0)) ∧ w'.cell? ⟨(ad225.add (((ji8)).toNat * 12)).block, (ad225.add (((ji8)).toNat * 12)).off + 8, none⟩ = some (.int .i64 ((rd_T30 l0 (ji8)).f4.f1)) ∧ w'.cell? ⟨(ad225.add (((ji8)).toNat * 12)).block, (ad225.add (((ji8)).toNat * 12)).off + 9, none⟩ = some (.int .i64 ((rd_T30 l0 (ji8)).f5)) ∧ w'.cell? ⟨(ad225.add (((ji8)).toNat * 12)).block, (ad225.add (((ji8)).toNat * 12)).off + 10, none⟩ = some (.bool ((rd_T30 l0 (ji8)).f6)) ∧ w'.cell? ⟨(ad225.add (((ji8)).toNat * 12)).block, (ad225.add (((ji8)).toNat * 12)).off + 11, none⟩ = some (.string ((rd_T30 l0 (ji8)).f7))) (ds := []) qx17_0 (by kernel_rfl) rfl rfl ⟨(blk_cell BK226.out 0).trans rfl, (blk_cell BK226.out 1).trans rfl, (blk_cell BK226.out 2).trans rfl, (blk_cell BK226.out 3).trans rfl, (blk_cell BK226.out 4).trans rfl, (blk_cell BK226.out 5).trans rfl, (blk_cell BK226.out 6).trans rfl, (blk_cell BK226.out 7).trans rfl, (blk_cell BK226.out 8).trans rfl, (blk_cell BK226.out 9).trans rfl, (blk_cell BK226.out 10).trans rfl, (blk_cell BK226.out 11).trans rfl, ((HB.out.cell (World.block_lt_of_cell? w _ hw228_0)).trans hw228_0), ((HB.out.cell (World.block_lt_of_cell? w _ hw228_1)).trans hw228_1), ((HB.out.cell (World.block_lt_of_cell? w _ hw228_2)).trans hw228_2), ((HB.out.cell (World.block_lt_of_cell? w _ hw228_3)).trans hw228_3), ((HB.out.cell (World.block_lt_of_cell? w _ hw228_4)).trans hw228_4), ((HB.out.cell (World.block_lt_of_cell? w _ hw228_5)).trans hw228_5), ((HB.out.cell (World.block_lt_of_cell? w _ hw228_6)).trans hw228_6), ((HB.out.cell (World.block_lt_of_cell? w _ hw228_7)).trans hw228_7), ((HB.out.cell (World.block_lt_of_cell? w _ hw228_8)).trans hw228_8), ((HB.out.cell (World.block_lt_of_cell? w _ hw228_9)).trans hw228_9), ((HB.out.cell (World.block_lt_of_cell? w _ hw228_10)).trans hw228_10), ((HB.out.cell (World.block_lt_of_cell? w _ hw228_11)).trans hw228_11)⟩ (fun hHeld => ?_); refine with_tabW impl_ValidLog.tab4 impl_ValidLog.bits4 (fun HT_ HW_ => ?_)
           generalize w21.drew = w22 at BK226 HB hx228_0 hx228_1 hx228_10 hx228_11 hx228_2 hx228_3 hx228_4 hx228_5 hx228_6 hx228_7 hx228_8 hx228_9 hHeld ⊢
           refine take_ (i := 0) (N := some 12) (v := ?_) (a' := ?_) qx17_1 rfl rfl (take_ofW HT_.out HW_.out (by kernel_rfl)) (fun _ _ _ h => h) (Or.inl ⟨by rfl, ?_⟩) hHeld ?_ ?_
           rotate_left
           ·rintro w' ⟨s0, s1, s2, s3, s4, s5, s6, s7, s8, s9, s10, s11, s12, s13, s14, s15, s16, s17, s18, s19, s20, s21, s22, s23⟩
            go_simp
            with_reducible rfl
           rotate_left
           ·simp only [putS]
            rfl
           refine one_ (i := 1) (N := some 13) qx17_2 rfl rfl (one_of HT_.out (by kernel_rfl)) (by decide) (fun K hK => ?_)
           refine goes_ Try.func14 (by kernel_rfl) rfl #[.agg #[.int .i64 ((rd_T30 l0 x7_1).f0.f0), .int .i64 ((rd_T30 l0 x7_1).f0.f1), .int .i64 ((rd_T30 l0 x7_1).f1), .int .i64 ((rd_T30 l0 x7_1).f2.f0), .int .i64 ((rd_T30 l0 x7_1).f2.f1), .int .i64 ((rd_T30 l0 x7_1).f3.f0), .int .i64 ((rd_T30 l0 x7_1).f3.f1), .int .i64 ((rd_T30 l0 x7_1).f4.f0), .int .i64 ((rd_T30 l0 x7_1).f4.f1), .int .i64 ((rd_T30 l0 x7_1).f5), .bool ((rd_T30 l0 x7_1).f6), .string ((rd_T30 l0 x7_1).f7)]] (by rfl) rfl rfl (by (try simp only [List.map_toArray, List.map_cons, List.map_nil]); first | done | rfl | (simp only [List.length_drop, List.length_take]; rfl)) ?_
           with_reducible refine (impl_ValidOp.calls ((rd_T30 l0 x7_1).f0.f0) ((rd_T30 l0 x7_1).f0.f1) ((rd_T30 l0 x7_1).f1) ((rd_T30 l0 x7_1).f2.f0) ((rd_T30 l0 x7_1).f2.f1) ((rd_T30 l0 x7_1).f3.f0) ((rd_T30 l0 x7_1).f3.f1) ((rd_T30 l0 x7_1).f4.f0) ((rd_T30 l0 x7_1).f4.f1) ((rd_T30 l0 x7_1).f5) ((rd_T30 l0 x7_1).f6) ((rd_T30 l0 x7_1).f7) true _ A5.out).mono ?_
           rintro e w23 ⟨rfl, hb⟩
           refine ⟨_, rfl, ?_⟩
           have n0_ := Aside0.mk (blk_below (g := gb226) (o := .cells #[.int .i64 ((rd_T30 l0 x7_1).f0.f0), .int .i64 ((rd_T30 l0 x7_1).f0.f1), .int .i64 ((rd_T30 l0 x7_1).f1), .int .i64 ((rd_T30 l0 x7_1).f2.f0), .int .i64 ((rd_T30 l0 x7_1).f2.f1), .int .i64 ((rd_T30 l0 x7_1).f3.f0), .int .i64 ((rd_T30 l0 x7_1).f3.f1), .int .i64 ((rd_T30 l0 x7_1).f4.f0), .int .i64 ((rd_T30 l0 x7_1).f4.f1), .int .i64 ((rd_T30 l0 x7_1).f5), .bool ((rd_T30 l0 x7_1).f6), .string ((rd_T30 l0 x7_1).f7)] 30 (0, 0)) (by (with_reducible repeat (first | refine blk_drewN ?_ _ | refine blk_drew ?_ | refine blk_alloc ?_ _)); exact BK226.out) hb)
           have n1_ := Aside0.mk (below_step (by repeat (first | (with_reducible first | exact HB.out | apply below_alloc | apply pw_below_drewN | apply below_drew1 | refine below_set ?_ GE226.out) | exact HB.out)) hb)
           clear BK226
           clear HB
           have BK226 := n0_
           have HB := n1_
           clear n0_ n1_
           (try clear hb)
           (try clear hb2)
           (try clear hk)
           (try clear hi)
           refine hK.out _ _ ⟨(blk_cell BK226.out 0).trans rfl, (blk_cell BK226.out 1).trans rfl, (blk_cell BK226.out 2).trans rfl, (blk_cell BK226.out 3).trans rfl, (blk_cell BK226.out 4).trans rfl, (blk_cell BK226.out 5).trans rfl, (blk_cell BK226.out 6).trans rfl, (blk_cell BK226.out 7).trans rfl, (blk_cell BK226.out 8).trans rfl, (blk_cell BK226.out 9).trans rfl, (blk_cell BK226.out 10).trans rfl, (blk_cell BK226.out 11).trans rfl, ((HB.out.cell (World.block_lt_of_cell? w _ hw228_0)).trans hw228_0), ((HB.out.cell (World.block_lt_of_cell? w _ hw228_1)).trans hw228_1), ((HB.out.cell (World.block_lt_of_cell? w _ hw228_2)).trans hw228_2), ((HB.out.cell (World.block_lt_of_cell? w _ hw228_3)).trans hw228_3), ((HB.out.cell (World.block_lt_of_cell? w _ hw228_4)).trans hw228_4), ((HB.out.cell (World.block_lt_of_cell? w _ hw228_5)).trans hw228_5), ((HB.out.cell (World.block_lt_of_cell? w _ hw228_6)).trans hw228_6), ((HB.out.cell (World.block_lt_of_cell? w _ hw228_7)).trans hw228_7), ((HB.out.cell (World.block_lt_of_cell? w _ hw228_8)).trans hw228_8), ((HB.out.cell (World.block_lt_of_cell? w _ hw228_9)).trans hw228_9), ((HB.out.cell (World.block_lt_of_cell? w _ hw228_10)).trans hw228_10), ((HB.out.cell (World.block_lt_of_cell? w _ hw228_11)).trans hw228_11)⟩ (fun hHeld => ?_)
           clear hK K
           refine norm_ (a' := ?_) ?_ ?_
           rotate_left
           ·show Act.put _ (some 13) _ = _
            simp only [putS]
            rfl
           refine pure_ (i := 2) (N := some 14) (v := ?_) (a' := ?_) qx17_3 rfl rfl (any_of HT_.out (by kernel_rfl)) (fun _ _ _ h => h) (Or.inl ⟨by rfl, ?_⟩) ?_ ?_
           rotate_left
           ·intro w'
            go_simp
            with_reducible rfl
           rotate_left
           ·simp only [putS]
            rfl
           refine pure_ (i := 3) (N := some 15) (v := ?_) (a' := ?_) qx17_4 rfl rfl (any_of HT_.out (by kernel_rfl)) (fun _ _ _ h => h) (Or.inl ⟨by rfl, ?_⟩) ?_ ?_
           rotate_left
           ·intro w'
            go_simp
            with_reducible rfl
           rotate_left
           ·simp only [putS]
            rfl
           refine pure_ (i := 4) (N := some 16) (v := ?_) (a' := ?_) qx17_5 rfl rfl (any_of HT_.out (by kernel_rfl)) (fun _ _ _ h => h) (Or.inl ⟨by rfl, ?_⟩) ?_ ?_
           rotate_left
           ·intro w'
            go_simp
            with_reducible rfl
           rotate_left
           ·simp only [putS]
            rfl
           refine pure_ (i := 5) (N := some 17) (v := ?_) (a' := ?_) qx17_6 rfl rfl (any_of HT_.out (by kernel_rfl)) (fun _ _ _ h => h) (Or.inl ⟨by rfl, ?_⟩) ?_ ?_
           rotate_left
           ·intro w'
            go_simp
            with_reducible rfl
           rotate_left
           ·simp only [putS]
            rfl
           refine pure_ (i := 6) (N := some 18) (v := ?_) (a' := ?_) qx17_7 rfl rfl (any_of HT_.out (by kernel_rfl)) (fun _ _ _ h => h) (Or.inl ⟨by rfl, ?_⟩) ?_ ?_
           rotate_left
           ·intro w'
            go_simp
            with_reducible rfl
           rotate_left
           ·simp only [putS]
            rfl
           refine pure_ (i := 7) (N := some 19) (v := ?_) (a' := ?_) qx17_8 rfl rfl (any_of HT_.out (by kernel_rfl)) (fun _ _ _ h => h) (Or.inl ⟨by rfl, ?_⟩) ?_ ?_
           rotate_left
           ·intro w'
            go_simp
            with_reducible rfl
           rotate_left
           ·simp only [putS]
            rfl
           refine pure_ (i := 8) (N := some 20) (v := ?_) (a' := ?_) qx17_9 rfl rfl (any_of HT_.out (by kernel_rfl)) (fun _ _ _ h => h) (Or.inl ⟨by rfl, ?_⟩) ?_ ?_
           rotate_left
           ·intro w'
            go_simp
            with_reducible rfl
           rotate_left
           ·simp only [putS]
            rfl
           refine pure_ (i := 9) (N := some 21) (v := ?_) (a' := ?_) qx17_10 rfl rfl (any_of HT_.out (by kernel_rfl)) (fun _ _ _ h => h) (Or.inl ⟨by rfl, ?_⟩) ?_ ?_
           rotate_left
           ·intro w'
            go_simp
            with_reducible rfl
           rotate_left
           ·simp only [putS]
            rfl
           refine pure_ (i := 10) (N := some 22) (v := ?_) (a' := ?_) qx17_11 rfl rfl (any_of HT_.out (by kernel_rfl)) (fun _ _ _ h => h) (Or.inl ⟨by rfl, ?_⟩) ?_ ?_
           rotate_left
           ·intro w'
            go_simp
            with_reducible rfl
           rotate_left
           ·simp only [putS]
            rfl
           refine pure_ (i := 11) (N := some 23) (v := ?_) (a' := ?_) qx17_12 rfl rfl (any_of HT_.out (by kernel_rfl)) (fun _ _ _ h => h) (Or.inl ⟨by rfl, ?_⟩) ?_ ?_
           rotate_left
           ·intro w'
            go_simp
            with_reducible rfl
           rotate_left
           ·simp only [putS]
            rfl
           refine pure_ (i := 13) (N := some 25) (v := ?_) (a' := ?_) qx17_19 rfl rfl (any_of HT_.out (by kernel_rfl)) (fun _ _ _ h => h) (Or.inl ⟨by rfl, ?_⟩) ?_ ?_
           rotate_left
           ·intro w'
            go_simp
            with_reducible rfl
           rotate_left
           ·simp only [putS]
            rfl
           refine take_ (i := 12) (N := some 24) (v := ?_) (a' := ?_) qx17_13 rfl rfl (take_ofW HT_.out HW_.out (by kernel_rfl)) (fun _ _ _ h => h) (Or.inl ⟨by rfl, ?_⟩) hHeld ?_ ?_
           rotate_left
           ·rintro w' ⟨s0, s1, s2, s3, s4, s5, s6, s7, s8, s9, s10, s11, s12, s13, s14, s15, s16, s17, s18, s19, s20, s21, s22, s23⟩
            go_simp
            with_reducible rfl
           rotate_left
           ·simp only [putS]
            rfl
           refine take_ (i := 14) (N := some 26) (v := ?_) (a' := ?_) qx17_14 rfl rfl (take_ofW HT_.out HW_.out (by kernel_rfl)) (fun _ _ _ h => h) (Or.inl ⟨by rfl, ?_⟩) hHeld ?_ ?_
           rotate_left
           ·rintro w' ⟨s0, s1, s2, s3, s4, s5, s6, s7, s8, s9, s10, s11, s12, s13, s14, s15, s16, s17, s18, s19, s20, s21, s22, s23⟩
            go_simp
            with_reducible rfl
           rotate_left
           ·simp only [putS]
            rfl
           refine one_ (i := 15) (N := some 27) qx17_15 rfl rfl (one_of HT_.out (by kernel_rfl)) (by decide) (fun K hK => ?_)
           refine goes_ Try.func45 (by kernel_rfl) rfl #[.agg #[.int .i64 ((rd_T30 l0 (ji8)).f0.f0), .int .i64 ((rd_T30 l0 (ji8)).f0.f1)], .agg #[.int .i64 ((rd_T30 l0 x7_1).f0.f0), .int .i64 ((rd_T30 l0 x7_1).f0.f1)]] (by rfl) rfl rfl (by (try simp only [List.map_toArray, List.map_cons, List.map_nil]); first | done | (simp only [hji8]; rfl) | rfl | (simp only [List.length_drop, List.length_take]; rfl)) ?_
           with_reducible refine (impl_StampLess.calls ((rd_T30 l0 (ji8)).f0.f0) ((rd_T30 l0 (ji8)).f0.f1) ((rd_T30 l0 x7_1).f0.f0) ((rd_T30 l0 x7_1).f0.f1) false _ A11.out).mono ?_
           rintro e w24 ⟨rfl, hb⟩
           refine ⟨_, rfl, ?_⟩
           have n0_ := Aside0.mk (blk_below (g := gb226) (o := .cells #[.int .i64 ((rd_T30 l0 x7_1).f0.f0), .int .i64 ((rd_T30 l0 x7_1).f0.f1), .int .i64 ((rd_T30 l0 x7_1).f1), .int .i64 ((rd_T30 l0 x7_1).f2.f0), .int .i64 ((rd_T30 l0 x7_1).f2.f1), .int .i64 ((rd_T30 l0 x7_1).f3.f0), .int .i64 ((rd_T30 l0 x7_1).f3.f1), .int .i64 ((rd_T30 l0 x7_1).f4.f0), .int .i64 ((rd_T30 l0 x7_1).f4.f1), .int .i64 ((rd_T30 l0 x7_1).f5), .bool ((rd_T30 l0 x7_1).f6), .string ((rd_T30 l0 x7_1).f7)] 30 (0, 0)) (by (with_reducible repeat (first | refine blk_drewN ?_ _ | refine blk_drew ?_ | refine blk_alloc ?_ _)); exact BK226.out) hb)
           have n1_ := Aside0.mk (below_step (by repeat (first | (with_reducible first | exact HB.out | apply below_alloc | apply pw_below_drewN | apply below_drew1 | refine below_set ?_ GE226.out) | exact HB.out)) hb)
           clear BK226
           clear HB
           have BK226 := n0_
           have HB := n1_
           clear n0_ n1_
           (try clear hb)
           (try clear hb2)
           (try clear hk)
           (try clear hi)
           refine hK.out _ _ ⟨(blk_cell BK226.out 0).trans rfl, (blk_cell BK226.out 1).trans rfl, (blk_cell BK226.out 2).trans rfl, (blk_cell BK226.out 3).trans rfl, (blk_cell BK226.out 4).trans rfl, (blk_cell BK226.out 5).trans rfl, (blk_cell BK226.out 6).trans rfl, (blk_cell BK226.out 7).trans rfl, (blk_cell BK226.out 8).trans rfl, (blk_cell BK226.out 9).trans rfl, (blk_cell BK226.out 10).trans rfl, (blk_cell BK226.out 11).trans rfl, ((HB.out.cell (World.block_lt_of_cell? w _ hw228_0)).trans hw228_0), ((HB.out.cell (World.block_lt_of_cell? w _ hw228_1)).trans hw228_1), ((HB.out.cell (World.block_lt_of_cell? w _ hw228_2)).trans hw228_2), ((HB.out.cell (World.block_lt_of_cell? w _ hw228_3)).trans hw228_3), ((HB.out.cell (World.block_lt_of_cell? w _ hw228_4)).trans hw228_4), ((HB.out.cell (World.block_lt_of_cell? w _ hw228_5)).trans hw228_5), ((HB.out.cell (World.block_lt_of_cell? w _ hw228_6)).trans hw228_6), ((HB.out.cell (World.block_lt_of_cell? w _ hw228_7)).trans hw228_7), ((HB.out.cell (World.block_lt_of_cell? w _ hw228_8)).trans hw228_8), ((HB.out.cell (World.block_lt_of_cell? w _ hw228_9)).trans hw228_9), ((HB.out.cell (World.block_lt_of_cell? w _ hw228_10)).trans hw228_10), ((HB.out.cell (World.block_lt_of_cell? w _ hw228_11)).trans hw228_11)⟩ (fun hHeld => ?_)
           clear hK K
           refine norm_ (a' := ?_) ?_ ?_
           rotate_left
           ·show Act.put _ (some 27) _ = _
            simp only [putS]
            rfl
           refine pure_ (i := 16) (N := some 28) (v := ?_) (a' := ?_) qx17_16 rfl rfl (any_of HT_.out (by kernel_rfl)) (fun _ _ _ h => h) (Or.inl ⟨by rfl, ?_⟩) ?_ ?_
           rotate_left
           ·intro w'
            go_simp
            with_reducible rfl
           rotate_left
           ·simp only [putS]
            rfl
           refine pure_ (i := 17) (N := some 29) (v := ?_) (a' := ?_) qx17_17 rfl rfl (any_of HT_.out (by kernel_rfl)) (fun _ _ _ h => h) (Or.inl ⟨by rfl, ?_⟩) ?_ ?_
           rotate_left
           ·intro w'
            go_simp
            with_reducible rfl
           rotate_left
           ·simp only [putS]
            rfl
           refine pure_ (i := 18) (N := some 30) (v := ?_) (a' := ?_) qx17_18 rfl rfl (any_of HT_.out (by kernel_rfl)) (fun _ _ _ h => h) (Or.inl ⟨by rfl, ?_⟩) ?_ ?_
           rotate_left
           ·intro w'
            go_simp
            with_reducible rfl
           rotate_left
           ·simp only [putS]
            rfl
           refine done_ (done_of HT_.out (by kernel_rfl)) ?_
           try go_wp2
           go_ret
           exact ⟨by first | rfl | (simp [errW_none, errW_some] <;> rfl) | (simp only [← hji8]; first | rfl | (simp [errW_none, errW_some] <;> rfl)) | (simp [*, errW_none, errW_some] <;> rfl), by repeat (first | (with_reducible first | exact HB.out | apply below_alloc | apply pw_below_drewN | apply below_drew1 | refine below_set ?_ GE226.out) | exact HB.out)⟩
         ·rw [if_neg c10] at H
          exact absurd H (by simp)
        ·rw [if_neg c9] at H
         exact absurd H (by simp)
       ·rw [if_neg c7] at H
        have c7b0 : decide (0 < x7_1) = false := decide_eq_false c7
        clear c7
        have H' := Aside0.mk H
        clear H
        have p225 : 0 ≤ (x7_1 : Int) := of_decide_eq_true (by first | (with_reducible assumption) | assumption)
        have q225 : x7_1 < (l0.length : Int) := of_decide_eq_true (by first | (with_reducible assumption) | assumption)
        obtain ⟨ad225, e225, hx225_0, hx225_1, hx225_2, hx225_3, hx225_4, hx225_5, hx225_6, hx225_7, hx225_8, hx225_9, hx225_10, hx225_11⟩ := at_T30 HR0.out x7_1 p225 q225
        cases e225
        replace hx225_0 := cellUp HB.out hx225_0
        replace hx225_1 := cellUp HB.out hx225_1
        replace hx225_2 := cellUp HB.out hx225_2
        replace hx225_3 := cellUp HB.out hx225_3
        replace hx225_4 := cellUp HB.out hx225_4
        replace hx225_5 := cellUp HB.out hx225_5
        replace hx225_6 := cellUp HB.out hx225_6
        replace hx225_7 := cellUp HB.out hx225_7
        replace hx225_8 := cellUp HB.out hx225_8
        replace hx225_9 := cellUp HB.out hx225_9
        replace hx225_10 := cellUp HB.out hx225_10
        replace hx225_11 := cellUp HB.out hx225_11
        replace p225 := eq_true p225
        replace q225 := eq_true q225
        try go_wp2_with (first | ((with_reducible refine gate_dst (N := 4) rfl ?_); refine box_event ?hg (N := 4) ?hd (cs := #[.int .i64 0, .int .i64 0, .int .i64 0, .int .i64 0, .int .i64 0, .int .i64 0, .int .i64 0, .int .i64 0, .int .i64 0, .int .i64 0, .bool false, .string (⟨#[]⟩ : ByteArray)]) (t := 30) ?hr ?_; (case hd => rfl); (case hg => rfl); (case hr => first | (go_simp; done) | (go_simp; rfl)); intro gb226 hg w25 hbox hb; have n0_ := Aside0.mk (below_step (by repeat (first | (with_reducible first | exact HB.out | apply below_alloc | apply pw_below_drewN | apply below_drew1) | exact HB.out)) hb); have n1_ := Aside0.mk (hbox); have n2_ := Aside0.mk ((by rw [hg]; exact (below_size (by repeat (first | (with_reducible first | exact HB.out | apply below_alloc | apply pw_below_drewN | apply below_drew1) | exact HB.out))) : w.heap.size ≤ gb226)); have n3_ := Aside0.mk ((by rw [hg]; exact (below_size (by repeat (first | (with_reducible first | exact HB.out | apply below_alloc | apply pw_below_drewN | apply below_drew1) | exact HB.out))) : w.heap.size ≤ gb226)); clear HB; have HB := n0_; have BK226 := n1_; have GW226 := n2_; have GE226 := n3_; clear n0_ n1_ n2_ n3_; clear hb hbox hg; have hcz26_0 : w25.cell? ⟨gb226, 0, none⟩ = some (.int .i64 0) := (blk_cell BK226.out 0).trans rfl; have hcz26_1 : w25.cell? ⟨gb226, 1, none⟩ = some (.int .i64 0) := (blk_cell BK226.out 1).trans rfl; have hcz26_2 : w25.cell? ⟨gb226, 2, none⟩ = some (.int .i64 0) := (blk_cell BK226.out 2).trans rfl; have hcz26_3 : w25.cell? ⟨gb226, 3, none⟩ = some (.int .i64 0) := (blk_cell BK226.out 3).trans rfl; have hcz26_4 : w25.cell? ⟨gb226, 4, none⟩ = some (.int .i64 0) := (blk_cell BK226.out 4).trans rfl; have hcz26_5 : w25.cell? ⟨gb226, 5, none⟩ = some (.int .i64 0) := (blk_cell BK226.out 5).trans rfl; have hcz26_6 : w25.cell? ⟨gb226, 6, none⟩ = some (.int .i64 0) := (blk_cell BK226.out 6).trans rfl; have hcz26_7 : w25.cell? ⟨gb226, 7, none⟩ = some (.int .i64 0) := (blk_cell BK226.out 7).trans rfl; have hcz26_8 : w25.cell? ⟨gb226, 8, none⟩ = some (.int .i64 0) := (blk_cell BK226.out 8).trans rfl; have hcz26_9 : w25.cell? ⟨gb226, 9, none⟩ = some (.int .i64 0) := (blk_cell BK226.out 9).trans rfl; have hcz26_10 : w25.cell? ⟨gb226, 10, none⟩ = some (.bool false) := (blk_cell BK226.out 10).trans rfl; have hcz26_11 : w25.cell? ⟨gb226, 11, none⟩ = some (.string (⟨#[]⟩ : ByteArray)) := (blk_cell BK226.out 11).trans rfl; have hfz26_0 := blk_frozen BK226.out 0; have hfz26_1 := blk_frozen BK226.out 1; have hfz26_2 := blk_frozen BK226.out 2; have hfz26_3 := blk_frozen BK226.out 3; have hfz26_4 := blk_frozen BK226.out 4; have hfz26_5 := blk_frozen BK226.out 5; have hfz26_6 := blk_frozen BK226.out 6; have hfz26_7 := blk_frozen BK226.out 7; have hfz26_8 := blk_frozen BK226.out 8; have hfz26_9 := blk_frozen BK226.out 9; have hfz26_10 := blk_frozen BK226.out 10; have hfz26_11 := blk_frozen BK226.out 11))
        have n0_ : Aside0 (((((((((((((w25.setCell ⟨gb226, 0, none⟩ (.int .i64 ((rd_T30 l0 x7_1).f0.f0))).setCell ⟨gb226, 1, none⟩ (.int .i64 ((rd_T30 l0 x7_1).f0.f1))).setCell ⟨gb226, 2, none⟩ (.int .i64 ((rd_T30 l0 x7_1).f1))).setCell ⟨gb226, 3, none⟩ (.int .i64 ((rd_T30 l0 x7_1).f2.f0))).setCell ⟨gb226, 4, none⟩ (.int .i64 ((rd_T30 l0 x7_1).f2.f1))).setCell ⟨gb226, 5, none⟩ (.int .i64 ((rd_T30 l0 x7_1).f3.f0))).setCell ⟨gb226, 6, none⟩ (.int .i64 ((rd_T30 l0 x7_1).f3.f1))).setCell ⟨gb226, 7, none⟩ (.int .i64 ((rd_T30 l0 x7_1).f4.f0))).setCell ⟨gb226, 8, none⟩ (.int .i64 ((rd_T30 l0 x7_1).f4.f1))).setCell ⟨gb226, 9, none⟩ (.int .i64 ((rd_T30 l0 x7_1).f5))).setCell ⟨gb226, 10, none⟩ (.bool ((rd_T30 l0 x7_1).f6))).setCell ⟨gb226, 11, none⟩ (.string ((rd_T30 l0 x7_1).f7))).heap[gb226]? = some (.cells #[.int .i64 ((rd_T30 l0 x7_1).f0.f0), .int .i64 ((rd_T30 l0 x7_1).f0.f1), .int .i64 ((rd_T30 l0 x7_1).f1), .int .i64 ((rd_T30 l0 x7_1).f2.f0), .int .i64 ((rd_T30 l0 x7_1).f2.f1), .int .i64 ((rd_T30 l0 x7_1).f3.f0), .int .i64 ((rd_T30 l0 x7_1).f3.f1), .int .i64 ((rd_T30 l0 x7_1).f4.f0), .int .i64 ((rd_T30 l0 x7_1).f4.f1), .int .i64 ((rd_T30 l0 x7_1).f5), .bool ((rd_T30 l0 x7_1).f6), .string ((rd_T30 l0 x7_1).f7)] 30 (0, 0))) := ⟨by (with_reducible repeat (first | refine blk_drewN ?_ _ | refine blk_drew ?_ | refine blk_alloc ?_ _)); refine blk_put (cs := #[.int .i64 ((rd_T30 l0 x7_1).f0.f0), .int .i64 ((rd_T30 l0 x7_1).f0.f1), .int .i64 ((rd_T30 l0 x7_1).f1), .int .i64 ((rd_T30 l0 x7_1).f2.f0), .int .i64 ((rd_T30 l0 x7_1).f2.f1), .int .i64 ((rd_T30 l0 x7_1).f3.f0), .int .i64 ((rd_T30 l0 x7_1).f3.f1), .int .i64 ((rd_T30 l0 x7_1).f4.f0), .int .i64 ((rd_T30 l0 x7_1).f4.f1), .int .i64 ((rd_T30 l0 x7_1).f5), .bool ((rd_T30 l0 x7_1).f6), .string (⟨#[]⟩ : ByteArray)]) ?_ 11 _ rfl; (with_reducible repeat (first | refine blk_drewN ?_ _ | refine blk_drew ?_ | refine blk_alloc ?_ _)); refine blk_put (cs := #[.int .i64 ((rd_T30 l0 x7_1).f0.f0), .int .i64 ((rd_T30 l0 x7_1).f0.f1), .int .i64 ((rd_T30 l0 x7_1).f1), .int .i64 ((rd_T30 l0 x7_1).f2.f0), .int .i64 ((rd_T30 l0 x7_1).f2.f1), .int .i64 ((rd_T30 l0 x7_1).f3.f0), .int .i64 ((rd_T30 l0 x7_1).f3.f1), .int .i64 ((rd_T30 l0 x7_1).f4.f0), .int .i64 ((rd_T30 l0 x7_1).f4.f1), .int .i64 ((rd_T30 l0 x7_1).f5), .bool false, .string (⟨#[]⟩ : ByteArray)]) ?_ 10 _ rfl; (with_reducible repeat (first | refine blk_drewN ?_ _ | refine blk_drew ?_ | refine blk_alloc ?_ _)); refine blk_put (cs := #[.int .i64 ((rd_T30 l0 x7_1).f0.f0), .int .i64 ((rd_T30 l0 x7_1).f0.f1), .int .i64 ((rd_T30 l0 x7_1).f1), .int .i64 ((rd_T30 l0 x7_1).f2.f0), .int .i64 ((rd_T30 l0 x7_1).f2.f1), .int .i64 ((rd_T30 l0 x7_1).f3.f0), .int .i64 ((rd_T30 l0 x7_1).f3.f1), .int .i64 ((rd_T30 l0 x7_1).f4.f0), .int .i64 ((rd_T30 l0 x7_1).f4.f1), .int .i64 0, .bool false, .string (⟨#[]⟩ : ByteArray)]) ?_ 9 _ rfl; (with_reducible repeat (first | refine blk_drewN ?_ _ | refine blk_drew ?_ | refine blk_alloc ?_ _)); refine blk_put (cs := #[.int .i64 ((rd_T30 l0 x7_1).f0.f0), .int .i64 ((rd_T30 l0 x7_1).f0.f1), .int .i64 ((rd_T30 l0 x7_1).f1), .int .i64 ((rd_T30 l0 x7_1).f2.f0), .int .i64 ((rd_T30 l0 x7_1).f2.f1), .int .i64 ((rd_T30 l0 x7_1).f3.f0), .int .i64 ((rd_T30 l0 x7_1).f3.f1), .int .i64 ((rd_T30 l0 x7_1).f4.f0), .int .i64 0, .int .i64 0, .bool false, .string (⟨#[]⟩ : ByteArray)]) ?_ 8 _ rfl; (with_reducible repeat (first | refine blk_drewN ?_ _ | refine blk_drew ?_ | refine blk_alloc ?_ _)); refine blk_put (cs := #[.int .i64 ((rd_T30 l0 x7_1).f0.f0), .int .i64 ((rd_T30 l0 x7_1).f0.f1), .int .i64 ((rd_T30 l0 x7_1).f1), .int .i64 ((rd_T30 l0 x7_1).f2.f0), .int .i64 ((rd_T30 l0 x7_1).f2.f1), .int .i64 ((rd_T30 l0 x7_1).f3.f0), .int .i64 ((rd_T30 l0 x7_1).f3.f1), .int .i64 0, .int .i64 0, .int .i64 0, .bool false, .string (⟨#[]⟩ : ByteArray)]) ?_ 7 _ rfl; (with_reducible repeat (first | refine blk_drewN ?_ _ | refine blk_drew ?_ | refine blk_alloc ?_ _)); refine blk_put (cs := #[.int .i64 ((rd_T30 l0 x7_1).f0.f0), .int .i64 ((rd_T30 l0 x7_1).f0.f1), .int .i64 ((rd_T30 l0 x7_1).f1), .int .i64 ((rd_T30 l0 x7_1).f2.f0), .int .i64 ((rd_T30 l0 x7_1).f2.f1), .int .i64 ((rd_T30 l0 x7_1).f3.f0), .int .i64 0, .int .i64 0, .int .i64 0, .int .i64 0, .bool false, .string (⟨#[]⟩ : ByteArray)]) ?_ 6 _ rfl; (with_reducible repeat (first | refine blk_drewN ?_ _ | refine blk_drew ?_ | refine blk_alloc ?_ _)); refine blk_put (cs := #[.int .i64 ((rd_T30 l0 x7_1).f0.f0), .int .i64 ((rd_T30 l0 x7_1).f0.f1), .int .i64 ((rd_T30 l0 x7_1).f1), .int .i64 ((rd_T30 l0 x7_1).f2.f0), .int .i64 ((rd_T30 l0 x7_1).f2.f1), .int .i64 0, .int .i64 0, .int .i64 0, .int .i64 0, .int .i64 0, .bool false, .string (⟨#[]⟩ : ByteArray)]) ?_ 5 _ rfl; (with_reducible repeat (first | refine blk_drewN ?_ _ | refine blk_drew ?_ | refine blk_alloc ?_ _)); refine blk_put (cs := #[.int .i64 ((rd_T30 l0 x7_1).f0.f0), .int .i64 ((rd_T30 l0 x7_1).f0.f1), .int .i64 ((rd_T30 l0 x7_1).f1), .int .i64 ((rd_T30 l0 x7_1).f2.f0), .int .i64 0, .int .i64 0, .int .i64 0, .int .i64 0, .int .i64 0, .int .i64 0, .bool false, .string (⟨#[]⟩ : ByteArray)]) ?_ 4 _ rfl; (with_reducible repeat (first | refine blk_drewN ?_ _ | refine blk_drew ?_ | refine blk_alloc ?_ _)); refine blk_put (cs := #[.int .i64 ((rd_T30 l0 x7_1).f0.f0), .int .i64 ((rd_T30 l0 x7_1).f0.f1), .int .i64 ((rd_T30 l0 x7_1).f1), .int .i64 0, .int .i64 0, .int .i64 0, .int .i64 0, .int .i64 0, .int .i64 0, .int .i64 0, .bool false, .string (⟨#[]⟩ : ByteArray)]) ?_ 3 _ rfl; (with_reducible repeat (first | refine blk_drewN ?_ _ | refine blk_drew ?_ | refine blk_alloc ?_ _)); refine blk_put (cs := #[.int .i64 ((rd_T30 l0 x7_1).f0.f0), .int .i64 ((rd_T30 l0 x7_1).f0.f1), .int .i64 0, .int .i64 0, .int .i64 0, .int .i64 0, .int .i64 0, .int .i64 0, .int .i64 0, .int .i64 0, .bool false, .string (⟨#[]⟩ : ByteArray)]) ?_ 2 _ rfl; (with_reducible repeat (first | refine blk_drewN ?_ _ | refine blk_drew ?_ | refine blk_alloc ?_ _)); refine blk_put (cs := #[.int .i64 ((rd_T30 l0 x7_1).f0.f0), .int .i64 0, .int .i64 0, .int .i64 0, .int .i64 0, .int .i64 0, .int .i64 0, .int .i64 0, .int .i64 0, .int .i64 0, .bool false, .string (⟨#[]⟩ : ByteArray)]) ?_ 1 _ rfl; (with_reducible repeat (first | refine blk_drewN ?_ _ | refine blk_drew ?_ | refine blk_alloc ?_ _)); refine blk_put (cs := #[.int .i64 0, .int .i64 0, .int .i64 0, .int .i64 0, .int .i64 0, .int .i64 0, .int .i64 0, .int .i64 0, .int .i64 0, .int .i64 0, .bool false, .string (⟨#[]⟩ : ByteArray)]) ?_ 0 _ rfl; (with_reducible repeat (first | refine blk_drewN ?_ _ | refine blk_drew ?_ | refine blk_alloc ?_ _)); exact BK226.out⟩
        have n1_ : Aside0 (Below w.heap.size w ((((((((((((w25.setCell ⟨gb226, 0, none⟩ (.int .i64 ((rd_T30 l0 x7_1).f0.f0))).setCell ⟨gb226, 1, none⟩ (.int .i64 ((rd_T30 l0 x7_1).f0.f1))).setCell ⟨gb226, 2, none⟩ (.int .i64 ((rd_T30 l0 x7_1).f1))).setCell ⟨gb226, 3, none⟩ (.int .i64 ((rd_T30 l0 x7_1).f2.f0))).setCell ⟨gb226, 4, none⟩ (.int .i64 ((rd_T30 l0 x7_1).f2.f1))).setCell ⟨gb226, 5, none⟩ (.int .i64 ((rd_T30 l0 x7_1).f3.f0))).setCell ⟨gb226, 6, none⟩ (.int .i64 ((rd_T30 l0 x7_1).f3.f1))).setCell ⟨gb226, 7, none⟩ (.int .i64 ((rd_T30 l0 x7_1).f4.f0))).setCell ⟨gb226, 8, none⟩ (.int .i64 ((rd_T30 l0 x7_1).f4.f1))).setCell ⟨gb226, 9, none⟩ (.int .i64 ((rd_T30 l0 x7_1).f5))).setCell ⟨gb226, 10, none⟩ (.bool ((rd_T30 l0 x7_1).f6))).setCell ⟨gb226, 11, none⟩ (.string ((rd_T30 l0 x7_1).f7)))) := ⟨by repeat (first | (with_reducible first | exact HB.out | apply below_alloc | apply pw_below_drewN | apply below_drew1 | refine below_set ?_ GE226.out) | exact HB.out)⟩
        (try clear BK226)
        (try clear HB)
        generalize ((((((((((((w25.setCell ⟨gb226, 0, none⟩ (.int .i64 ((rd_T30 l0 x7_1).f0.f0))).setCell ⟨gb226, 1, none⟩ (.int .i64 ((rd_T30 l0 x7_1).f0.f1))).setCell ⟨gb226, 2, none⟩ (.int .i64 ((rd_T30 l0 x7_1).f1))).setCell ⟨gb226, 3, none⟩ (.int .i64 ((rd_T30 l0 x7_1).f2.f0))).setCell ⟨gb226, 4, none⟩ (.int .i64 ((rd_T30 l0 x7_1).f2.f1))).setCell ⟨gb226, 5, none⟩ (.int .i64 ((rd_T30 l0 x7_1).f3.f0))).setCell ⟨gb226, 6, none⟩ (.int .i64 ((rd_T30 l0 x7_1).f3.f1))).setCell ⟨gb226, 7, none⟩ (.int .i64 ((rd_T30 l0 x7_1).f4.f0))).setCell ⟨gb226, 8, none⟩ (.int .i64 ((rd_T30 l0 x7_1).f4.f1))).setCell ⟨gb226, 9, none⟩ (.int .i64 ((rd_T30 l0 x7_1).f5))).setCell ⟨gb226, 10, none⟩ (.bool ((rd_T30 l0 x7_1).f6))).setCell ⟨gb226, 11, none⟩ (.string ((rd_T30 l0 x7_1).f7))) = w27 at n0_ n1_ ⊢
        have BK226 := n0_
        have HB := n1_
        clear n0_ n1_
        have n0_ := Aside0.mk (blk_drew BK226.out)
        have n1_ := Aside0.mk (below_drew1 HB.out)
        clear BK226
        clear HB
        have BK226 := n0_
        have HB := n1_
        clear n0_ n1_
        refine start_ (n := 19) (S := fun w' => w'.cell? ⟨gb226, 0, none⟩ = some (.int .i64 ((rd_T30 l0 x7_1).f0.f0)) ∧ w'.cell? ⟨gb226, 1, none⟩ = some (.int .i64 ((rd_T30 l0 x7_1).f0.f1)) ∧ w'.cell? ⟨gb226, 2, none⟩ = some (.int .i64 ((rd_T30 l0 x7_1).f1)) ∧ w'.cell? ⟨gb226, 3, none⟩ = some (.int .i64 ((rd_T30 l0 x7_1).f2.f0)) ∧ w'.cell? ⟨gb226, 4, none⟩ = some (.int .i64 ((rd_T30 l0 x7_1).f2.f1)) ∧ w'.cell? ⟨gb226, 5, none⟩ = some (.int .i64 ((rd_T30 l0 x7_1).f3.f0)) ∧ w'.cell? ⟨gb226, 6, none⟩ = some (.int .i64 ((rd_T30 l0 x7_1).f3.f1)) ∧ w'.cell? ⟨gb226, 7, none⟩ = some (.int .i64 ((rd_T30 l0 x7_1).f4.f0)) ∧ w'.cell? ⟨gb226, 8, none⟩ = some (.int .i64 ((rd_T30 l0 x7_1).f4.f1)) ∧ w'.cell? ⟨gb226, 9, none⟩ = some (.int .i64 ((rd_T30 l0 x7_1).f5)) ∧ w'.cell? ⟨gb226, 10, none⟩ = some (.bool ((rd_T30 l0 x7_1).f6)) ∧ w'.cell? ⟨gb226, 11, none⟩ = some (.string ((rd_T30 l0 x7_1).f7))) (ds := []) qx17_0 (by kernel_rfl) rfl rfl ⟨(blk_cell BK226.out 0).trans rfl, (blk_cell BK226.out 1).trans rfl, (blk_cell BK226.out 2).trans rfl, (blk_cell BK226.out 3).trans rfl, (blk_cell BK226.out 4).trans rfl, (blk_cell BK226.out 5).trans rfl, (blk_cell BK226.out 6).trans rfl, (blk_cell BK226.out 7).trans rfl, (blk_cell BK226.out 8).trans rfl, (blk_cell BK226.out 9).trans rfl, (blk_cell BK226.out 10).trans rfl, (blk_cell BK226.out 11).trans rfl⟩ (fun hHeld => ?_); refine with_tabW impl_ValidLog.tab4 impl_ValidLog.bits4 (fun HT_ HW_ => ?_)
        generalize w27.drew = w28 at BK226 HB hHeld ⊢
        refine take_ (i := 0) (N := some 12) (v := ?_) (a' := ?_) qx17_1 rfl rfl (take_ofW HT_.out HW_.out (by kernel_rfl)) (fun _ _ _ h => h) (Or.inl ⟨by rfl, ?_⟩) hHeld ?_ ?_
        rotate_left
        ·rintro w' ⟨s0, s1, s2, s3, s4, s5, s6, s7, s8, s9, s10, s11⟩
         go_simp
         with_reducible rfl
        rotate_left
        ·simp only [putS]
         rfl
        refine one_ (i := 1) (N := some 13) qx17_2 rfl rfl (one_of HT_.out (by kernel_rfl)) (by decide) (fun K hK => ?_)
        refine goes_ Try.func14 (by kernel_rfl) rfl #[.agg #[.int .i64 ((rd_T30 l0 x7_1).f0.f0), .int .i64 ((rd_T30 l0 x7_1).f0.f1), .int .i64 ((rd_T30 l0 x7_1).f1), .int .i64 ((rd_T30 l0 x7_1).f2.f0), .int .i64 ((rd_T30 l0 x7_1).f2.f1), .int .i64 ((rd_T30 l0 x7_1).f3.f0), .int .i64 ((rd_T30 l0 x7_1).f3.f1), .int .i64 ((rd_T30 l0 x7_1).f4.f0), .int .i64 ((rd_T30 l0 x7_1).f4.f1), .int .i64 ((rd_T30 l0 x7_1).f5), .bool ((rd_T30 l0 x7_1).f6), .string ((rd_T30 l0 x7_1).f7)]] (by rfl) rfl rfl (by (try simp only [List.map_toArray, List.map_cons, List.map_nil]); first | done | rfl | (simp only [List.length_drop, List.length_take]; rfl)) ?_
        with_reducible refine (impl_ValidOp.calls ((rd_T30 l0 x7_1).f0.f0) ((rd_T30 l0 x7_1).f0.f1) ((rd_T30 l0 x7_1).f1) ((rd_T30 l0 x7_1).f2.f0) ((rd_T30 l0 x7_1).f2.f1) ((rd_T30 l0 x7_1).f3.f0) ((rd_T30 l0 x7_1).f3.f1) ((rd_T30 l0 x7_1).f4.f0) ((rd_T30 l0 x7_1).f4.f1) ((rd_T30 l0 x7_1).f5) ((rd_T30 l0 x7_1).f6) ((rd_T30 l0 x7_1).f7) true _ A5.out).mono ?_
        rintro e w29 ⟨rfl, hb⟩
        refine ⟨_, rfl, ?_⟩
        have n0_ := Aside0.mk (blk_below (g := gb226) (o := .cells #[.int .i64 ((rd_T30 l0 x7_1).f0.f0), .int .i64 ((rd_T30 l0 x7_1).f0.f1), .int .i64 ((rd_T30 l0 x7_1).f1), .int .i64 ((rd_T30 l0 x7_1).f2.f0), .int .i64 ((rd_T30 l0 x7_1).f2.f1), .int .i64 ((rd_T30 l0 x7_1).f3.f0), .int .i64 ((rd_T30 l0 x7_1).f3.f1), .int .i64 ((rd_T30 l0 x7_1).f4.f0), .int .i64 ((rd_T30 l0 x7_1).f4.f1), .int .i64 ((rd_T30 l0 x7_1).f5), .bool ((rd_T30 l0 x7_1).f6), .string ((rd_T30 l0 x7_1).f7)] 30 (0, 0)) (by (with_reducible repeat (first | refine blk_drewN ?_ _ | refine blk_drew ?_ | refine blk_alloc ?_ _)); exact BK226.out) hb)
        have n1_ := Aside0.mk (below_step (by repeat (first | (with_reducible first | exact HB.out | apply below_alloc | apply pw_below_drewN | apply below_drew1 | refine below_set ?_ GE226.out) | exact HB.out)) hb)
        clear BK226
        clear HB
        have BK226 := n0_
        have HB := n1_
        clear n0_ n1_
        (try clear hb)
        (try clear hb2)
        (try clear hk)
        (try clear hi)
        refine hK.out _ _ ⟨(blk_cell BK226.out 0).trans rfl, (blk_cell BK226.out 1).trans rfl, (blk_cell BK226.out 2).trans rfl, (blk_cell BK226.out 3).trans rfl, (blk_cell BK226.out 4).trans rfl, (blk_cell BK226.out 5).trans rfl, (blk_cell BK226.out 6).trans rfl, (blk_cell BK226.out 7).trans rfl, (blk_cell BK226.out 8).trans rfl, (blk_cell BK226.out 9).trans rfl, (blk_cell BK226.out 10).trans rfl, (blk_cell BK226.out 11).trans rfl⟩ (fun hHeld => ?_)
        clear hK K
        refine norm_ (a' := ?_) ?_ ?_
        rotate_left
        ·show Act.put _ (some 13) _ = _
         simp only [putS]
         rfl
        refine pure_ (i := 2) (N := some 14) (v := ?_) (a' := ?_) qx17_3 rfl rfl (any_of HT_.out (by kernel_rfl)) (fun _ _ _ h => h) (Or.inl ⟨by rfl, ?_⟩) ?_ ?_
        rotate_left
        ·intro w'
         go_simp
         with_reducible rfl
        rotate_left
        ·simp only [putS]
         rfl
        refine pure_ (i := 3) (N := some 15) (v := ?_) (a' := ?_) qx17_4 rfl rfl (any_of HT_.out (by kernel_rfl)) (fun _ _ _ h => h) (Or.inl ⟨by rfl, ?_⟩) ?_ ?_
        rotate_left
        ·intro w'
         go_simp
         with_reducible rfl
        rotate_left
        ·simp only [putS]
         rfl
        refine pure_ (i := 4) (N := some 16) (v := ?_) (a' := ?_) qx17_5 rfl rfl (any_of HT_.out (by kernel_rfl)) (fun _ _ _ h => h) (Or.inl ⟨by rfl, ?_⟩) ?_ ?_
        rotate_left
        ·intro w'
         go_simp
         with_reducible rfl
        rotate_left
        ·simp only [putS]
         rfl
        refine pure_ (i := 5) (N := some 17) (v := ?_) (a' := ?_) qx17_6 rfl rfl (any_of HT_.out (by kernel_rfl)) (fun _ _ _ h => h) (Or.inl ⟨by rfl, ?_⟩) ?_ ?_
        rotate_left
        ·intro w'
         go_simp
         with_reducible rfl
        rotate_left
        ·simp only [putS]
         rfl
        refine pure_ (i := 6) (N := some 18) (v := ?_) (a' := ?_) qx17_7 rfl rfl (any_of HT_.out (by kernel_rfl)) (fun _ _ _ h => h) (Or.inl ⟨by rfl, ?_⟩) ?_ ?_
        rotate_left
        ·intro w'
         go_simp
         with_reducible rfl
        rotate_left
        ·simp only [putS]
         rfl
        refine pure_ (i := 7) (N := some 19) (v := undef) (a' := ?_) qx17_8 rfl rfl (any_of HT_.out (by kernel_rfl)) (fun _ _ _ h => h) (Or.inr ⟨by rfl, rfl⟩) ?_ ?_
        rotate_left
        ·simp only [putS]
         rfl
        refine pure_ (i := 8) (N := some 20) (v := undef) (a' := ?_) qx17_9 rfl rfl (any_of HT_.out (by kernel_rfl)) (fun _ _ _ h => h) (Or.inr ⟨by rfl, rfl⟩) ?_ ?_
        rotate_left
        ·simp only [putS]
         rfl
        refine pure_ (i := 9) (N := some 21) (v := undef) (a' := ?_) qx17_10 rfl rfl (any_of HT_.out (by kernel_rfl)) (fun _ _ _ h => h) (Or.inr ⟨by rfl, rfl⟩) ?_ ?_
        rotate_left
        ·simp only [putS]
         rfl
        refine pure_ (i := 10) (N := some 22) (v := undef) (a' := ?_) qx17_11 rfl rfl (any_of HT_.out (by kernel_rfl)) (fun _ _ _ h => h) (Or.inr ⟨by rfl, rfl⟩) ?_ ?_
        rotate_left
        ·simp only [putS]
         rfl
        refine pure_ (i := 11) (N := some 23) (v := undef) (a' := ?_) qx17_12 rfl rfl (any_of HT_.out (by kernel_rfl)) (fun _ _ _ h => h) (Or.inr ⟨by rfl, rfl⟩) ?_ ?_
        rotate_left
        ·simp only [putS]
         rfl
        refine pure_ (i := 12) (N := some 24) (v := undef) (a' := ?_) qx17_20 rfl rfl (any_of HT_.out (by kernel_rfl)) (fun _ _ _ h => h) (Or.inr ⟨by rfl, rfl⟩) ?_ ?_
        rotate_left
        ·simp only [putS]
         rfl
        refine pure_ (i := 13) (N := some 25) (v := undef) (a' := ?_) qx17_13 rfl rfl (any_of HT_.out (by kernel_rfl)) (fun _ _ _ h => h) (Or.inr ⟨by rfl, rfl⟩) ?_ ?_
        rotate_left
        ·simp only [putS]
         rfl
        refine pure_ (i := 14) (N := some 26) (v := undef) (a' := ?_) qx17_14 rfl rfl (any_of HT_.out (by kernel_rfl)) (fun _ _ _ h => h) (Or.inr ⟨by rfl, rfl⟩) ?_ ?_
        rotate_left
        ·simp only [putS]
         rfl
        refine pure_ (i := 15) (N := some 27) (v := undef) (a' := ?_) qx17_15 rfl rfl (any_of HT_.out (by kernel_rfl)) (fun _ _ _ h => h) (Or.inr ⟨by rfl, rfl⟩) ?_ ?_
        rotate_left
        ·simp only [putS]
         rfl
        refine pure_ (i := 16) (N := some 28) (v := undef) (a' := ?_) qx17_16 rfl rfl (any_of HT_.out (by kernel_rfl)) (fun _ _ _ h => h) (Or.inr ⟨by rfl, rfl⟩) ?_ ?_
        rotate_left
        ·simp only [putS]
         rfl
        refine pure_ (i := 17) (N := some 29) (v := ?_) (a' := ?_) qx17_17 rfl rfl (any_of HT_.out (by kernel_rfl)) (fun _ _ _ h => h) (Or.inl ⟨by rfl, ?_⟩) ?_ ?_
        rotate_left
        ·intro w'
         go_simp
         with_reducible rfl
        rotate_left
        ·simp only [putS]
         rfl
        refine pure_ (i := 18) (N := some 30) (v := ?_) (a' := ?_) qx17_18 rfl rfl (any_of HT_.out (by kernel_rfl)) (fun _ _ _ h => h) (Or.inl ⟨by rfl, ?_⟩) ?_ ?_
        rotate_left
        ·intro w'
         go_simp
         with_reducible rfl
        rotate_left
        ·simp only [putS]
         rfl
        refine done_ (done_of HT_.out (by kernel_rfl)) ?_
        try go_wp2
        go_roundg k1
        case measure => have := HK1.out; omega
        case rel => exact ⟨(wrap64 (x7_1 + 1)), (by first | rfl | (simp; done) | (simp [*]; done)), H', ⟨by have := HK1.out; omega⟩, ⟨by repeat (first | (with_reducible first | exact HB.out | apply below_alloc | apply pw_below_drewN | apply below_drew1 | refine below_set ?_ GE226.out) | exact HB.out)⟩⟩
      ·replace c6 := Bool.eq_false_iff.mpr c6
       subst c6
       have H1 : (some false) = some r := by rw [if_neg (show ¬ (false = true) by decide)] at H; exact H
       clear H
       have H := H1
       clear H1
       obtain rfl := Option.some.inj H
       have p225 : 0 ≤ (x7_1 : Int) := of_decide_eq_true (by first | (with_reducible assumption) | assumption)
       have q225 : x7_1 < (l0.length : Int) := of_decide_eq_true (by first | (with_reducible assumption) | assumption)
       obtain ⟨ad225, e225, hx225_0, hx225_1, hx225_2, hx225_3, hx225_4, hx225_5, hx225_6, hx225_7, hx225_8, hx225_9, hx225_10, hx225_11⟩ := at_T30 HR0.out x7_1 p225 q225
       cases e225
       replace hx225_0 := cellUp HB.out hx225_0
       replace hx225_1 := cellUp HB.out hx225_1
       replace hx225_2 := cellUp HB.out hx225_2
       replace hx225_3 := cellUp HB.out hx225_3
       replace hx225_4 := cellUp HB.out hx225_4
       replace hx225_5 := cellUp HB.out hx225_5
       replace hx225_6 := cellUp HB.out hx225_6
       replace hx225_7 := cellUp HB.out hx225_7
       replace hx225_8 := cellUp HB.out hx225_8
       replace hx225_9 := cellUp HB.out hx225_9
       replace hx225_10 := cellUp HB.out hx225_10
       replace hx225_11 := cellUp HB.out hx225_11
       replace p225 := eq_true p225
       replace q225 := eq_true q225
       try go_wp2_with (first | ((with_reducible refine gate_dst (N := 4) rfl ?_); refine box_event ?hg (N := 4) ?hd (cs := #[.int .i64 0, .int .i64 0, .int .i64 0, .int .i64 0, .int .i64 0, .int .i64 0, .int .i64 0, .int .i64 0, .int .i64 0, .int .i64 0, .bool false, .string (⟨#[]⟩ : ByteArray)]) (t := 30) ?hr ?_; (case hd => rfl); (case hg => rfl); (case hr => first | (go_simp; done) | (go_simp; rfl)); intro gb226 hg w30 hbox hb; have n0_ := Aside0.mk (below_step (by repeat (first | (with_reducible first | exact HB.out | apply below_alloc | apply pw_below_drewN | apply below_drew1) | exact HB.out)) hb); have n1_ := Aside0.mk (hbox); have n2_ := Aside0.mk ((by rw [hg]; exact (below_size (by repeat (first | (with_reducible first | exact HB.out | apply below_alloc | apply pw_below_drewN | apply below_drew1) | exact HB.out))) : w.heap.size ≤ gb226)); have n3_ := Aside0.mk ((by rw [hg]; exact (below_size (by repeat (first | (with_reducible first | exact HB.out | apply below_alloc | apply pw_below_drewN | apply below_drew1) | exact HB.out))) : w.heap.size ≤ gb226)); clear HB; have HB := n0_; have BK226 := n1_; have GW226 := n2_; have GE226 := n3_; clear n0_ n1_ n2_ n3_; clear hb hbox hg; have hcz31_0 : w30.cell? ⟨gb226, 0, none⟩ = some (.int .i64 0) := (blk_cell BK226.out 0).trans rfl; have hcz31_1 : w30.cell? ⟨gb226, 1, none⟩ = some (.int .i64 0) := (blk_cell BK226.out 1).trans rfl; have hcz31_2 : w30.cell? ⟨gb226, 2, none⟩ = some (.int .i64 0) := (blk_cell BK226.out 2).trans rfl; have hcz31_3 : w30.cell? ⟨gb226, 3, none⟩ = some (.int .i64 0) := (blk_cell BK226.out 3).trans rfl; have hcz31_4 : w30.cell? ⟨gb226, 4, none⟩ = some (.int .i64 0) := (blk_cell BK226.out 4).trans rfl; have hcz31_5 : w30.cell? ⟨gb226, 5, none⟩ = some (.int .i64 0) := (blk_cell BK226.out 5).trans rfl; have hcz31_6 : w30.cell? ⟨gb226, 6, none⟩ = some (.int .i64 0) := (blk_cell BK226.out 6).trans rfl; have hcz31_7 : w30.cell? ⟨gb226, 7, none⟩ = some (.int .i64 0) := (blk_cell BK226.out 7).trans rfl; have hcz31_8 : w30.cell? ⟨gb226, 8, none⟩ = some (.int .i64 0) := (blk_cell BK226.out 8).trans rfl; have hcz31_9 : w30.cell? ⟨gb226, 9, none⟩ = some (.int .i64 0) := (blk_cell BK226.out 9).trans rfl; have hcz31_10 : w30.cell? ⟨gb226, 10, none⟩ = some (.bool false) := (blk_cell BK226.out 10).trans rfl; have hcz31_11 : w30.cell? ⟨gb226, 11, none⟩ = some (.string (⟨#[]⟩ : ByteArray)) := (blk_cell BK226.out 11).trans rfl; have hfz31_0 := blk_frozen BK226.out 0; have hfz31_1 := blk_frozen BK226.out 1; have hfz31_2 := blk_frozen BK226.out 2; have hfz31_3 := blk_frozen BK226.out 3; have hfz31_4 := blk_frozen BK226.out 4; have hfz31_5 := blk_frozen BK226.out 5; have hfz31_6 := blk_frozen BK226.out 6; have hfz31_7 := blk_frozen BK226.out 7; have hfz31_8 := blk_frozen BK226.out 8; have hfz31_9 := blk_frozen BK226.out 9; have hfz31_10 := blk_frozen BK226.out 10; have hfz31_11 := blk_frozen BK226.out 11))
       have n0_ : Aside0 (((((((((((((w30.setCell ⟨gb226, 0, none⟩ (.int .i64 ((rd_T30 l0 x7_1).f0.f0))).setCell ⟨gb226, 1, none⟩ (.int .i64 ((rd_T30 l0 x7_1).f0.f1))).setCell ⟨gb226, 2, none⟩ (.int .i64 ((rd_T30 l0 x7_1).f1))).setCell ⟨gb226, 3, none⟩ (.int .i64 ((rd_T30 l0 x7_1).f2.f0))).setCell ⟨gb226, 4, none⟩ (.int .i64 ((rd_T30 l0 x7_1).f2.f1))).setCell ⟨gb226, 5, none⟩ (.int .i64 ((rd_T30 l0 x7_1).f3.f0))).setCell ⟨gb226, 6, none⟩ (.int .i64 ((rd_T30 l0 x7_1).f3.f1))).setCell ⟨gb226, 7, none⟩ (.int .i64 ((rd_T30 l0 x7_1).f4.f0))).setCell ⟨gb226, 8, none⟩ (.int .i64 ((rd_T30 l0 x7_1).f4.f1))).setCell ⟨gb226, 9, none⟩ (.int .i64 ((rd_T30 l0 x7_1).f5))).setCell ⟨gb226, 10, none⟩ (.bool ((rd_T30 l0 x7_1).f6))).setCell ⟨gb226, 11, none⟩ (.string ((rd_T30 l0 x7_1).f7))).heap[gb226]? = some (.cells #[.int .i64 ((rd_T30 l0 x7_1).f0.f0), .int .i64 ((rd_T30 l0 x7_1).f0.f1), .int .i64 ((rd_T30 l0 x7_1).f1), .int .i64 ((rd_T30 l0 x7_1).f2.f0), .int .i64 ((rd_T30 l0 x7_1).f2.f1), .int .i64 ((rd_T30 l0 x7_1).f3.f0), .int .i64 ((rd_T30 l0 x7_1).f3.f1), .int .i64 ((rd_T30 l0 x7_1).f4.f0), .int .i64 ((rd_T30 l0 x7_1).f4.f1), .int .i64 ((rd_T30 l0 x7_1).f5), .bool ((rd_T30 l0 x7_1).f6), .string ((rd_T30 l0 x7_1).f7)] 30 (0, 0))) := ⟨by (with_reducible repeat (first | refine blk_drewN ?_ _ | refine blk_drew ?_ | refine blk_alloc ?_ _)); refine blk_put (cs := #[.int .i64 ((rd_T30 l0 x7_1).f0.f0), .int .i64 ((rd_T30 l0 x7_1).f0.f1), .int .i64 ((rd_T30 l0 x7_1).f1), .int .i64 ((rd_T30 l0 x7_1).f2.f0), .int .i64 ((rd_T30 l0 x7_1).f2.f1), .int .i64 ((rd_T30 l0 x7_1).f3.f0), .int .i64 ((rd_T30 l0 x7_1).f3.f1), .int .i64 ((rd_T30 l0 x7_1).f4.f0), .int .i64 ((rd_T30 l0 x7_1).f4.f1), .int .i64 ((rd_T30 l0 x7_1).f5), .bool ((rd_T30 l0 x7_1).f6), .string (⟨#[]⟩ : ByteArray)]) ?_ 11 _ rfl; (with_reducible repeat (first | refine blk_drewN ?_ _ | refine blk_drew ?_ | refine blk_alloc ?_ _)); refine blk_put (cs := #[.int .i64 ((rd_T30 l0 x7_1).f0.f0), .int .i64 ((rd_T30 l0 x7_1).f0.f1), .int .i64 ((rd_T30 l0 x7_1).f1), .int .i64 ((rd_T30 l0 x7_1).f2.f0), .int .i64 ((rd_T30 l0 x7_1).f2.f1), .int .i64 ((rd_T30 l0 x7_1).f3.f0), .int .i64 ((rd_T30 l0 x7_1).f3.f1), .int .i64 ((rd_T30 l0 x7_1).f4.f0), .int .i64 ((rd_T30 l0 x7_1).f4.f1), .int .i64 ((rd_T30 l0 x7_1).f5), .bool false, .string (⟨#[]⟩ : ByteArray)]) ?_ 10 _ rfl; (with_reducible repeat (first | refine blk_drewN ?_ _ | refine blk_drew ?_ | refine blk_alloc ?_ _)); refine blk_put (cs := #[.int .i64 ((rd_T30 l0 x7_1).f0.f0), .int .i64 ((rd_T30 l0 x7_1).f0.f1), .int .i64 ((rd_T30 l0 x7_1).f1), .int .i64 ((rd_T30 l0 x7_1).f2.f0), .int .i64 ((rd_T30 l0 x7_1).f2.f1), .int .i64 ((rd_T30 l0 x7_1).f3.f0), .int .i64 ((rd_T30 l0 x7_1).f3.f1), .int .i64 ((rd_T30 l0 x7_1).f4.f0), .int .i64 ((rd_T30 l0 x7_1).f4.f1), .int .i64 0, .bool false, .string (⟨#[]⟩ : ByteArray)]) ?_ 9 _ rfl; (with_reducible repeat (first | refine blk_drewN ?_ _ | refine blk_drew ?_ | refine blk_alloc ?_ _)); refine blk_put (cs := #[.int .i64 ((rd_T30 l0 x7_1).f0.f0), .int .i64 ((rd_T30 l0 x7_1).f0.f1), .int .i64 ((rd_T30 l0 x7_1).f1), .int .i64 ((rd_T30 l0 x7_1).f2.f0), .int .i64 ((rd_T30 l0 x7_1).f2.f1), .int .i64 ((rd_T30 l0 x7_1).f3.f0), .int .i64 ((rd_T30 l0 x7_1).f3.f1), .int .i64 ((rd_T30 l0 x7_1).f4.f0), .int .i64 0, .int .i64 0, .bool false, .string (⟨#[]⟩ : ByteArray)]) ?_ 8 _ rfl; (with_reducible repeat (first | refine blk_drewN ?_ _ | refine blk_drew ?_ | refine blk_alloc ?_ _)); refine blk_put (cs := #[.int .i64 ((rd_T30 l0 x7_1).f0.f0), .int .i64 ((rd_T30 l0 x7_1).f0.f1), .int .i64 ((rd_T30 l0 x7_1).f1), .int .i64 ((rd_T30 l0 x7_1).f2.f0), .int .i64 ((rd_T30 l0 x7_1).f2.f1), .int .i64 ((rd_T30 l0 x7_1).f3.f0), .int .i64 ((rd_T30 l0 x7_1).f3.f1), .int .i64 0, .int .i64 0, .int .i64 0, .bool false, .string (⟨#[]⟩ : ByteArray)]) ?_ 7 _ rfl; (with_reducible repeat (first | refine blk_drewN ?_ _ | refine blk_drew ?_ | refine blk_alloc ?_ _)); refine blk_put (cs := #[.int .i64 ((rd_T30 l0 x7_1).f0.f0), .int .i64 ((rd_T30 l0 x7_1).f0.f1), .int .i64 ((rd_T30 l0 x7_1).f1), .int .i64 ((rd_T30 l0 x7_1).f2.f0), .int .i64 ((rd_T30 l0 x7_1).f2.f1), .int .i64 ((rd_T30 l0 x7_1).f3.f0), .int .i64 0, .int .i64 0, .int .i64 0, .int .i64 0, .bool false, .string (⟨#[]⟩ : ByteArray)]) ?_ 6 _ rfl; (with_reducible repeat (first | refine blk_drewN ?_ _ | refine blk_drew ?_ | refine blk_alloc ?_ _)); refine blk_put (cs := #[.int .i64 ((rd_T30 l0 x7_1).f0.f0), .int .i64 ((rd_T30 l0 x7_1).f0.f1), .int .i64 ((rd_T30 l0 x7_1).f1), .int .i64 ((rd_T30 l0 x7_1).f2.f0), .int .i64 ((rd_T30 l0 x7_1).f2.f1), .int .i64 0, .int .i64 0, .int .i64 0, .int .i64 0, .int .i64 0, .bool false, .string (⟨#[]⟩ : ByteArray)]) ?_ 5 _ rfl; (with_reducible repeat (first | refine blk_drewN ?_ _ | refine blk_drew ?_ | refine blk_alloc ?_ _)); refine blk_put (cs := #[.int .i64 ((rd_T30 l0 x7_1).f0.f0), .int .i64 ((rd_T30 l0 x7_1).f0.f1), .int .i64 ((rd_T30 l0 x7_1).f1), .int .i64 ((rd_T30 l0 x7_1).f2.f0), .int .i64 0, .int .i64 0, .int .i64 0, .int .i64 0, .int .i64 0, .int .i64 0, .bool false, .string (⟨#[]⟩ : ByteArray)]) ?_ 4 _ rfl; (with_reducible repeat (first | refine blk_drewN ?_ _ | refine blk_drew ?_ | refine blk_alloc ?_ _)); refine blk_put (cs := #[.int .i64 ((rd_T30 l0 x7_1).f0.f0), .int .i64 ((rd_T30 l0 x7_1).f0.f1), .int .i64 ((rd_T30 l0 x7_1).f1), .int .i64 0, .int .i64 0, .int .i64 0, .int .i64 0, .int .i64 0, .int .i64 0, .int .i64 0, .bool false, .string (⟨#[]⟩ : ByteArray)]) ?_ 3 _ rfl; (with_reducible repeat (first | refine blk_drewN ?_ _ | refine blk_drew ?_ | refine blk_alloc ?_ _)); refine blk_put (cs := #[.int .i64 ((rd_T30 l0 x7_1).f0.f0), .int .i64 ((rd_T30 l0 x7_1).f0.f1), .int .i64 0, .int .i64 0, .int .i64 0, .int .i64 0, .int .i64 0, .int .i64 0, .int .i64 0, .int .i64 0, .bool false, .string (⟨#[]⟩ : ByteArray)]) ?_ 2 _ rfl; (with_reducible repeat (first | refine blk_drewN ?_ _ | refine blk_drew ?_ | refine blk_alloc ?_ _)); refine blk_put (cs := #[.int .i64 ((rd_T30 l0 x7_1).f0.f0), .int .i64 0, .int .i64 0, .int .i64 0, .int .i64 0, .int .i64 0, .int .i64 0, .int .i64 0, .int .i64 0, .int .i64 0, .bool false, .string (⟨#[]⟩ : ByteArray)]) ?_ 1 _ rfl; (with_reducible repeat (first | refine blk_drewN ?_ _ | refine blk_drew ?_ | refine blk_alloc ?_ _)); refine blk_put (cs := #[.int .i64 0, .int .i64 0, .int .i64 0, .int .i64 0, .int .i64 0, .int .i64 0, .int .i64 0, .int .i64 0, .int .i64 0, .int .i64 0, .bool false, .string (⟨#[]⟩ : ByteArray)]) ?_ 0 _ rfl; (with_reducible repeat (first | refine blk_drewN ?_ _ | refine blk_drew ?_ | refine blk_alloc ?_ _)); exact BK226.out⟩
       have n1_ : Aside0 (Below w.heap.size w ((((((((((((w30.setCell ⟨gb226, 0, none⟩ (.int .i64 ((rd_T30 l0 x7_1).f0.f0))).setCell ⟨gb226, 1, none⟩ (.int .i64 ((rd_T30 l0 x7_1).f0.f1))).setCell ⟨gb226, 2, none⟩ (.int .i64 ((rd_T30 l0 x7_1).f1))).setCell ⟨gb226, 3, none⟩ (.int .i64 ((rd_T30 l0 x7_1).f2.f0))).setCell ⟨gb226, 4, none⟩ (.int .i64 ((rd_T30 l0 x7_1).f2.f1))).setCell ⟨gb226, 5, none⟩ (.int .i64 ((rd_T30 l0 x7_1).f3.f0))).setCell ⟨gb226, 6, none⟩ (.int .i64 ((rd_T30 l0 x7_1).f3.f1))).setCell ⟨gb226, 7, none⟩ (.int .i64 ((rd_T30 l0 x7_1).f4.f0))).setCell ⟨gb226, 8, none⟩ (.int .i64 ((rd_T30 l0 x7_1).f4.f1))).setCell ⟨gb226, 9, none⟩ (.int .i64 ((rd_T30 l0 x7_1).f5))).setCell ⟨gb226, 10, none⟩ (.bool ((rd_T30 l0 x7_1).f6))).setCell ⟨gb226, 11, none⟩ (.string ((rd_T30 l0 x7_1).f7)))) := ⟨by repeat (first | (with_reducible first | exact HB.out | apply below_alloc | apply pw_below_drewN | apply below_drew1 | refine below_set ?_ GE226.out) | exact HB.out)⟩
       (try clear BK226)
       (try clear HB)
       generalize ((((((((((((w30.setCell ⟨gb226, 0, none⟩ (.int .i64 ((rd_T30 l0 x7_1).f0.f0))).setCell ⟨gb226, 1, none⟩ (.int .i64 ((rd_T30 l0 x7_1).f0.f1))).setCell ⟨gb226, 2, none⟩ (.int .i64 ((rd_T30 l0 x7_1).f1))).setCell ⟨gb226, 3, none⟩ (.int .i64 ((rd_T30 l0 x7_1).f2.f0))).setCell ⟨gb226, 4, none⟩ (.int .i64 ((rd_T30 l0 x7_1).f2.f1))).setCell ⟨gb226, 5, none⟩ (.int .i64 ((rd_T30 l0 x7_1).f3.f0))).setCell ⟨gb226, 6, none⟩ (.int .i64 ((rd_T30 l0 x7_1).f3.f1))).setCell ⟨gb226, 7, none⟩ (.int .i64 ((rd_T30 l0 x7_1).f4.f0))).setCell ⟨gb226, 8, none⟩ (.int .i64 ((rd_T30 l0 x7_1).f4.f1))).setCell ⟨gb226, 9, none⟩ (.int .i64 ((rd_T30 l0 x7_1).f5))).setCell ⟨gb226, 10, none⟩ (.bool ((rd_T30 l0 x7_1).f6))).setCell ⟨gb226, 11, none⟩ (.string ((rd_T30 l0 x7_1).f7))) = w32 at n0_ n1_ ⊢
       have BK226 := n0_
       have HB := n1_
       clear n0_ n1_
       have n0_ := Aside0.mk (blk_drew BK226.out)
       have n1_ := Aside0.mk (below_drew1 HB.out)
       clear BK226
       clear HB
       have BK226 := n0_
       have HB := n1_
       clear n0_ n1_
       refine start_ (n := 19) (S := fun w' => w'.cell? ⟨gb226, 0, none⟩ = some (.int .i64 ((rd_T30 l0 x7_1).f0.f0)) ∧ w'.cell? ⟨gb226, 1, none⟩ = some (.int .i64 ((rd_T30 l0 x7_1).f0.f1)) ∧ w'.cell? ⟨gb226, 2, none⟩ = some (.int .i64 ((rd_T30 l0 x7_1).f1)) ∧ w'.cell? ⟨gb226, 3, none⟩ = some (.int .i64 ((rd_T30 l0 x7_1).f2.f0)) ∧ w'.cell? ⟨gb226, 4, none⟩ = some (.int .i64 ((rd_T30 l0 x7_1).f2.f1)) ∧ w'.cell? ⟨gb226, 5, none⟩ = some (.int .i64 ((rd_T30 l0 x7_1).f3.f0)) ∧ w'.cell? ⟨gb226, 6, none⟩ = some (.int .i64 ((rd_T30 l0 x7_1).f3.f1)) ∧ w'.cell? ⟨gb226, 7, none⟩ = some (.int .i64 ((rd_T30 l0 x7_1).f4.f0)) ∧ w'.cell? ⟨gb226, 8, none⟩ = some (.int .i64 ((rd_T30 l0 x7_1).f4.f1)) ∧ w'.cell? ⟨gb226, 9, none⟩ = some (.int .i64 ((rd_T30 l0 x7_1).f5)) ∧ w'.cell? ⟨gb226, 10, none⟩ = some (.bool ((rd_T30 l0 x7_1).f6)) ∧ w'.cell? ⟨gb226, 11, none⟩ = some (.string ((rd_T30 l0 x7_1).f7))) (ds := []) qx17_0 (by kernel_rfl) rfl rfl ⟨(blk_cell BK226.out 0).trans rfl, (blk_cell BK226.out 1).trans rfl, (blk_cell BK226.out 2).trans rfl, (blk_cell BK226.out 3).trans rfl, (blk_cell BK226.out 4).trans rfl, (blk_cell BK226.out 5).trans rfl, (blk_cell BK226.out 6).trans rfl, (blk_cell BK226.out 7).trans rfl, (blk_cell BK226.out 8).trans rfl, (blk_cell BK226.out 9).trans rfl, (blk_cell BK226.out 10).trans rfl, (blk_cell BK226.out 11).trans rfl⟩ (fun hHeld => ?_); refine with_tabW impl_ValidLog.tab4 impl_ValidLog.bits4 (fun HT_ HW_ => ?_)
       generalize w32.drew = w33 at BK226 HB hHeld ⊢
       refine take_ (i := 0) (N := some 12) (v := ?_) (a' := ?_) qx17_1 rfl rfl (take_ofW HT_.out HW_.out (by kernel_rfl)) (fun _ _ _ h => h) (Or.inl ⟨by rfl, ?_⟩) hHeld ?_ ?_
       rotate_left
       ·rintro w' ⟨s0, s1, s2, s3, s4, s5, s6, s7, s8, s9, s10, s11⟩
        go_simp
        with_reducible rfl
       rotate_left
       ·simp only [putS]
        rfl
       refine one_ (i := 1) (N := some 13) qx17_2 rfl rfl (one_of HT_.out (by kernel_rfl)) (by decide) (fun K hK => ?_)
       refine goes_ Try.func14 (by kernel_rfl) rfl #[.agg #[.int .i64 ((rd_T30 l0 x7_1).f0.f0), .int .i64 ((rd_T30 l0 x7_1).f0.f1), .int .i64 ((rd_T30 l0 x7_1).f1), .int .i64 ((rd_T30 l0 x7_1).f2.f0), .int .i64 ((rd_T30 l0 x7_1).f2.f1), .int .i64 ((rd_T30 l0 x7_1).f3.f0), .int .i64 ((rd_T30 l0 x7_1).f3.f1), .int .i64 ((rd_T30 l0 x7_1).f4.f0), .int .i64 ((rd_T30 l0 x7_1).f4.f1), .int .i64 ((rd_T30 l0 x7_1).f5), .bool ((rd_T30 l0 x7_1).f6), .string ((rd_T30 l0 x7_1).f7)]] (by rfl) rfl rfl (by (try simp only [List.map_toArray, List.map_cons, List.map_nil]); first | done | rfl | (simp only [List.length_drop, List.length_take]; rfl)) ?_
       with_reducible refine (impl_ValidOp.calls ((rd_T30 l0 x7_1).f0.f0) ((rd_T30 l0 x7_1).f0.f1) ((rd_T30 l0 x7_1).f1) ((rd_T30 l0 x7_1).f2.f0) ((rd_T30 l0 x7_1).f2.f1) ((rd_T30 l0 x7_1).f3.f0) ((rd_T30 l0 x7_1).f3.f1) ((rd_T30 l0 x7_1).f4.f0) ((rd_T30 l0 x7_1).f4.f1) ((rd_T30 l0 x7_1).f5) ((rd_T30 l0 x7_1).f6) ((rd_T30 l0 x7_1).f7) false _ A5.out).mono ?_
       rintro e w34 ⟨rfl, hb⟩
       refine ⟨_, rfl, ?_⟩
       have n0_ := Aside0.mk (blk_below (g := gb226) (o := .cells #[.int .i64 ((rd_T30 l0 x7_1).f0.f0), .int .i64 ((rd_T30 l0 x7_1).f0.f1), .int .i64 ((rd_T30 l0 x7_1).f1), .int .i64 ((rd_T30 l0 x7_1).f2.f0), .int .i64 ((rd_T30 l0 x7_1).f2.f1), .int .i64 ((rd_T30 l0 x7_1).f3.f0), .int .i64 ((rd_T30 l0 x7_1).f3.f1), .int .i64 ((rd_T30 l0 x7_1).f4.f0), .int .i64 ((rd_T30 l0 x7_1).f4.f1), .int .i64 ((rd_T30 l0 x7_1).f5), .bool ((rd_T30 l0 x7_1).f6), .string ((rd_T30 l0 x7_1).f7)] 30 (0, 0)) (by (with_reducible repeat (first | refine blk_drewN ?_ _ | refine blk_drew ?_ | refine blk_alloc ?_ _)); exact BK226.out) hb)
       have n1_ := Aside0.mk (below_step (by repeat (first | (with_reducible first | exact HB.out | apply below_alloc | apply pw_below_drewN | apply below_drew1 | refine below_set ?_ GE226.out) | exact HB.out)) hb)
       clear BK226
       clear HB
       have BK226 := n0_
       have HB := n1_
       clear n0_ n1_
       (try clear hb)
       (try clear hb2)
       (try clear hk)
       (try clear hi)
       refine hK.out _ _ ⟨(blk_cell BK226.out 0).trans rfl, (blk_cell BK226.out 1).trans rfl, (blk_cell BK226.out 2).trans rfl, (blk_cell BK226.out 3).trans rfl, (blk_cell BK226.out 4).trans rfl, (blk_cell BK226.out 5).trans rfl, (blk_cell BK226.out 6).trans rfl, (blk_cell BK226.out 7).trans rfl, (blk_cell BK226.out 8).trans rfl, (blk_cell BK226.out 9).trans rfl, (blk_cell BK226.out 10).trans rfl, (blk_cell BK226.out 11).trans rfl⟩ (fun hHeld => ?_)
       clear hK K
       refine norm_ (a' := ?_) ?_ ?_
       rotate_left
       ·show Act.put _ (some 13) _ = _
        simp only [putS]
        rfl
       refine pure_ (i := 2) (N := some 14) (v := ?_) (a' := ?_) qx17_3 rfl rfl (any_of HT_.out (by kernel_rfl)) (fun _ _ _ h => h) (Or.inl ⟨by rfl, ?_⟩) ?_ ?_
       rotate_left
       ·intro w'
        go_simp
        with_reducible rfl
       rotate_left
       ·simp only [putS]
        rfl
       refine pure_ (i := 3) (N := some 15) (v := ?_) (a' := ?_) qx17_4 rfl rfl (any_of HT_.out (by kernel_rfl)) (fun _ _ _ h => h) (Or.inl ⟨by rfl, ?_⟩) ?_ ?_
       rotate_left
       ·intro w'
        go_simp
        with_reducible rfl
       rotate_left
       ·simp only [putS]
        rfl
       refine pure_ (i := 4) (N := some 16) (v := undef) (a' := ?_) qx17_5 rfl rfl (any_of HT_.out (by kernel_rfl)) (fun _ _ _ h => h) (Or.inr ⟨by rfl, rfl⟩) ?_ ?_
       rotate_left
       ·simp only [putS]
        rfl
       refine pure_ (i := 5) (N := some 17) (v := undef) (a' := ?_) qx17_6 rfl rfl (any_of HT_.out (by kernel_rfl)) (fun _ _ _ h => h) (Or.inr ⟨by rfl, rfl⟩) ?_ ?_
       rotate_left
       ·simp only [putS]
        rfl
       refine pure_ (i := 6) (N := some 18) (v := undef) (a' := ?_) qx17_7 rfl rfl (any_of HT_.out (by kernel_rfl)) (fun _ _ _ h => h) (Or.inr ⟨by rfl, rfl⟩) ?_ ?_
       rotate_left
       ·simp only [putS]
        rfl
       refine pure_ (i := 7) (N := some 19) (v := undef) (a' := ?_) qx17_8 rfl rfl (any_of HT_.out (by kernel_rfl)) (fun _ _ _ h => h) (Or.inr ⟨by rfl, rfl⟩) ?_ ?_
       rotate_left
       ·simp only [putS]
        rfl
       refine pure_ (i := 8) (N := some 20) (v := undef) (a' := ?_) qx17_9 rfl rfl (any_of HT_.out (by kernel_rfl)) (fun _ _ _ h => h) (Or.inr ⟨by rfl, rfl⟩) ?_ ?_
       rotate_left
       ·simp only [putS]
        rfl
       refine pure_ (i := 9) (N := some 21) (v := undef) (a' := ?_) qx17_10 rfl rfl (any_of HT_.out (by kernel_rfl)) (fun _ _ _ h => h) (Or.inr ⟨by rfl, rfl⟩) ?_ ?_
       rotate_left
       ·simp only [putS]
        rfl
       refine pure_ (i := 10) (N := some 22) (v := undef) (a' := ?_) qx17_11 rfl rfl (any_of HT_.out (by kernel_rfl)) (fun _ _ _ h => h) (Or.inr ⟨by rfl, rfl⟩) ?_ ?_
       rotate_left
       ·simp only [putS]
        rfl
       refine pure_ (i := 11) (N := some 23) (v := undef) (a' := ?_) qx17_12 rfl rfl (any_of HT_.out (by kernel_rfl)) (fun _ _ _ h => h) (Or.inr ⟨by rfl, rfl⟩) ?_ ?_
       rotate_left
       ·simp only [putS]
        rfl
       refine pure_ (i := 12) (N := some 24) (v := undef) (a' := ?_) qx17_20 rfl rfl (any_of HT_.out (by kernel_rfl)) (fun _ _ _ h => h) (Or.inr ⟨by rfl, rfl⟩) ?_ ?_
       rotate_left
       ·simp only [putS]
        rfl
       refine pure_ (i := 13) (N := some 25) (v := undef) (a' := ?_) qx17_13 rfl rfl (any_of HT_.out (by kernel_rfl)) (fun _ _ _ h => h) (Or.inr ⟨by rfl, rfl⟩) ?_ ?_
       rotate_left
       ·simp only [putS]
        rfl
       refine pure_ (i := 14) (N := some 26) (v := undef) (a' := ?_) qx17_14 rfl rfl (any_of HT_.out (by kernel_rfl)) (fun _ _ _ h => h) (Or.inr ⟨by rfl, rfl⟩) ?_ ?_
       rotate_left
       ·simp only [putS]
        rfl
       refine pure_ (i := 15) (N := some 27) (v := undef) (a' := ?_) qx17_15 rfl rfl (any_of HT_.out (by kernel_rfl)) (fun _ _ _ h => h) (Or.inr ⟨by rfl, rfl⟩) ?_ ?_
       rotate_left
       ·simp only [putS]
        rfl
       refine pure_ (i := 16) (N := some 28) (v := undef) (a' := ?_) qx17_16 rfl rfl (any_of HT_.out (by kernel_rfl)) (fun _ _ _ h => h) (Or.inr ⟨by rfl, rfl⟩) ?_ ?_
       rotate_left
       ·simp only [putS]
        rfl
       refine pure_ (i := 17) (N := some 29) (v := undef) (a' := ?_) qx17_17 rfl rfl (any_of HT_.out (by kernel_rfl)) (fun _ _ _ h => h) (Or.inr ⟨by rfl, rfl⟩) ?_ ?_
       rotate_left
       ·simp only [putS]
        rfl
       refine pure_ (i := 18) (N := some 30) (v := ?_) (a' := ?_) qx17_18 rfl rfl (any_of HT_.out (by kernel_rfl)) (fun _ _ _ h => h) (Or.inl ⟨by rfl, ?_⟩) ?_ ?_
       rotate_left
       ·intro w'
        go_simp
        with_reducible rfl
       rotate_left
       ·simp only [putS]
        rfl
       refine done_ (done_of HT_.out (by kernel_rfl)) ?_
       try go_wp2
       go_ret
       exact ⟨by first | rfl | (simp [errW_none, errW_some] <;> rfl) | (simp [*, errW_none, errW_some] <;> rfl), by repeat (first | (with_reducible first | exact HB.out | apply below_alloc | apply pw_below_drewN | apply below_drew1 | refine below_set ?_ GE226.out) | exact HB.out)⟩
     ·rw [if_neg c4] at H
      exact absurd H (by simp)
    ·rw [if_neg c3] at H
     exact absurd H (by simp)
   ·rw [if_neg c2] at H
    have c2b0 : decide (x7_1 < (l0.length : Int)) = false := decide_eq_false c2
    clear c2
    obtain rfl := Option.some.inj H
    go_wp2
    go_ret
    exact ⟨by first | rfl | (simp [errW_none, errW_some] <;> rfl) | (simp [*, errW_none, errW_some] <;> rfl), by repeat (first | (with_reducible first | exact HB.out | apply below_alloc | apply pw_below_drewN | apply below_drew1) | exact HB.out)⟩

end Go.Proofs.Ytomigiindmojkaa.QG

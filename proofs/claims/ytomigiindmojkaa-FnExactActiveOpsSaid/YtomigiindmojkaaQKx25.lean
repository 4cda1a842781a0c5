/- Proved here: a call of each of these functions of the program does what the Lean function of the same name says. Conditions: the premises of each theorem (what the arguments read as). Written by a program of this session over the print of the kit, repaired, and joined with texts by hand. -/
import Derived.Test.YtomigiindmojkaaQKx0
import Derived.Test.YtomigiindmojkaaQKx1
namespace Go.Proofs.Ytomigiindmojkaa.QK
open Go.Proofs.Ytomigiindmojkaa.Base Go.RowKit Go.Proofs.YtomigiindmojkaaW.PrintWords Go.Proofs.YtomigiindmojkaaW.PrintLast Go.Proofs.YtomigiindmojkaaW.PrintMore
attribute [local go_sem] max2_int min2_int max_two min_two max_three min_three max_four min_four   -- for this text's walks alone
set_option linter.unusedVariables false
set_option linter.unusedSimpArgs false

attribute [local go_sem high] eqA28
/-! ### spec_activeOps: function 52 -/
mutual
def spec_activeOps.l0 : Nat → List (S30) → List Bool → Int → Option (List Bool)
 | 0, _, _, _ => none
 | k + 1, x0, x3, x4 => if x4 < (x0.length : Int) then (spec_activeOps.l1 k x0 x3 x4 true (wrap64 (x4 + 1))) else (some x3)
def spec_activeOps.l1 : Nat → List (S30) → List Bool → Int → Bool → Int → Option (List Bool)
 | 0, _, _, _, _, _ => none
 | k + 1, x0, x3, x4, x5, x6 => if x6 < (x0.length : Int) then (if 0 ≤ x6 then (if ((rd_T30 x0 x6).f1) = 10 then (if 0 ≤ x4 then (if x4 < (x0.length : Int) then (if (((rd_T30 x0 x6).f2.f0) == ((rd_T30 x0 x4).f0.f0) && (((rd_T30 x0 x6).f2.f1) == ((rd_T30 x0 x4).f0.f1))) = true then (if ((rd_T30 x0 x6).f0.f1) = ((rd_T30 x0 x4).f0.f1) then (if ((rd_T30 x0 x4).f1) = 10 then (spec_activeOps.l1 k x0 x3 x4 x5 (wrap64 (x6 + 1))) else (spec_activeOps.l1 k x0 x3 x4 ((rd_T30 x0 x6).f6) (wrap64 (x6 + 1)))) else (spec_activeOps.l1 k x0 x3 x4 x5 (wrap64 (x6 + 1)))) else (spec_activeOps.l1 k x0 x3 x4 x5 (wrap64 (x6 + 1)))) else (none)) else (none)) else (spec_activeOps.l1 k x0 x3 x4 x5 (wrap64 (x6 + 1)))) else (none)) else (if x3.length < 140737488355328 then (spec_activeOps.l0 k x0 (x3 ++ [x5]) (wrap64 (x4 + 1))) else (none))
end
def spec_activeOps.f (k : Nat) (l0 : List (S30)) : Option (List Bool) := spec_activeOps.l0 k l0 (([] : List Bool)) 0
theorem spec_activeOps.mono_l : ∀ k, (∀ y0 y1 y2, LeO (spec_activeOps.l0 k y0 y1 y2) (spec_activeOps.l0 (k + 1) y0 y1 y2)) ∧ (∀ y0 y1 y2 y3 y4, LeO (spec_activeOps.l1 k y0 y1 y2 y3 y4) (spec_activeOps.l1 (k + 1) y0 y1 y2 y3 y4))
 | 0 => ⟨fun _ _ _ r h => by simp [spec_activeOps.l0] at h, fun _ _ _ _ _ r h => by simp [spec_activeOps.l1] at h⟩
 | k + 1 => by
  obtain ⟨ih0, ih1⟩ := spec_activeOps.mono_l k
  refine ⟨?_, ?_⟩
  ·intro y0 y1 y2
   unfold spec_activeOps.l0
   repeat' first
   | (with_reducible exact ih0 _ _ _)
   | (with_reducible exact ih1 _ _ _ _ _)
   | (with_reducible exact LeO.refl _)
   | (with_reducible exact LeO.none _)
   | (with_reducible refine LeO.ite ?_ ?_)
   | (with_reducible refine LeO.bind ?_ (fun _ => ?_))
   | exact ih0 _ _ _
   | exact ih1 _ _ _ _ _
   | exact LeO.none _
   | refine LeO.ite ?_ ?_
   | refine LeO.bind ?_ (fun _ => ?_)
  ·intro y0 y1 y2 y3 y4
   unfold spec_activeOps.l1
   repeat' first
   | (with_reducible exact ih0 _ _ _)
   | (with_reducible exact ih1 _ _ _ _ _)
   | (with_reducible exact LeO.refl _)
   | (with_reducible exact LeO.none _)
   | (with_reducible refine LeO.ite ?_ ?_)
   | (with_reducible refine LeO.bind ?_ (fun _ => ?_))
   | exact ih0 _ _ _
   | exact ih1 _ _ _ _ _
   | exact LeO.none _
   | refine LeO.ite ?_ ?_
   | refine LeO.bind ?_ (fun _ => ?_)
theorem spec_activeOps.mono : ∀ a0 k, LeO (spec_activeOps.f k a0) (spec_activeOps.f (k + 1) a0) := by
 intro a0 k
 obtain ⟨ih0, ih1⟩ := spec_activeOps.mono_l k
 unfold spec_activeOps.f
 repeat' first
   | (with_reducible exact ih0 _ _ _)
   | (with_reducible exact ih1 _ _ _ _ _)
   | (with_reducible exact LeO.refl _)
   | (with_reducible exact LeO.none _)
   | (with_reducible refine LeO.ite ?_ ?_)
   | (with_reducible refine LeO.bind ?_ (fun _ => ?_))
   | exact ih0 _ _ _
   | exact ih1 _ _ _ _ _
   | exact LeO.none _
   | refine LeO.ite ?_ ?_
   | refine LeO.bind ?_ (fun _ => ?_)
set_option maxHeartbeats 8000000 in
set_option maxRecDepth 100000 in
theorem spec_activeOps.calls (k : Nat) (A0 : Option Addr) (c0 : Nat) (l0 : List (S30)) (r : List Bool) (w : World) (hr0 : Kd.C k30 w A0 l0.length l0) (hc0 : l0.length ≤ c0) (h : spec_activeOps.f k l0 = some r) :
  Calls Try.prog 52 #[.slice A0 l0.length c0] w fun e w' => ∃ v0_ : Value, e = .returned (v0_) ∧ Kd.R Kd.bool 4 w' w.heap.size (fun _ => True) v0_ r ∧ Below w.heap.size w w' := by
 have hu28 := Try.underlying28
 have HR0 := Aside0.mk hr0
 have HC0 := Aside0.mk hc0
 clear hr0 hc0
 have HB := Aside0.mk (Below.refl w.heap.size w)
 have H : (spec_activeOps.l0 k l0 (([] : List Bool)) 0) = some r := h
 clear h
 obtain ⟨y321, hy321⟩ : ∃ y_ : List Bool, y_ = (([] : List Bool)) := ⟨_, rfl⟩
 replace H : (spec_activeOps.l0 k l0 y321 0) = some r := by first | (rw [hy321]; with_reducible exact H) | (have H2_ := (Option.bind_some _ _).symm.trans H; rw [hy321]; with_reducible exact H2_) | (have H2_ := (Option.bind_some _ _).symm.trans H; with_reducible exact H2_) | with_reducible exact H | (rw [hy321]; exact H) | exact H
 have Ny321 := Aside0.mk hy321
 clear hy321
 have H' := Aside0.mk H
 clear H
 go_enter Try.func52, Try.ntmps52
 go_wp2_with (first | ((with_reducible refine gate_dst (N := 7) rfl ?_); refine Kd.R_lit Kd.bool _ 4 ?hg (N := 7) ?hd (xs := ([] : List Bool)) (inner := []) (ok := fun _ => True) (okp := fun _ => True) ?hr ?hp (fun _ hk => hk) trivial (Below.refl _ _) (Nat.le_refl _) (by simp) ?_; (case hd => rfl); (case hg => rfl); (case hr => first | (go_simp; done) | (go_simp; rfl)); (case hp => exact (Reps.none _ _)); intro v322 w2 ho3 hb hg_ hnew_; clear hg_ hnew_; (first | rw [← Ny321.out] at ho3 | (simp only [Int.reduceToNat] at ho3; rw [← Ny321.out] at ho3)); have n0_ := Aside0.mk (Kd.R_lower ho3 (below_size (by repeat (first | (with_reducible first | exact HB.out | apply below_alloc | apply pw_below_drewN | apply below_drew1) | exact HB.out)))); have n1_ := Aside0.mk (below_step (by repeat (first | (with_reducible first | exact HB.out | apply below_alloc | apply pw_below_drewN | apply below_drew1) | exact HB.out)) hb); clear HB; have HO323 := n0_; have HB := n1_; clear n0_ n1_; clear hb ho3))
 repeat (go_quiet (first | ((with_reducible refine gate_dst (N := 7) rfl ?_); refine Kd.R_lit Kd.bool _ 4 ?hg (N := 7) ?hd (xs := ([] : List Bool)) (inner := []) (ok := fun _ => True) (okp := fun _ => True) ?hr ?hp (fun _ hk => hk) trivial (Below.refl _ _) (Nat.le_refl _) (by simp) ?_; (case hd => rfl); (case hg => rfl); (case hr => first | (go_simp; done) | (go_simp; rfl)); (case hp => exact (Reps.none _ _)); intro v322 w2 ho3 hb hg_ hnew_; clear hg_ hnew_; (first | rw [← Ny321.out] at ho3 | (simp only [Int.reduceToNat] at ho3; rw [← Ny321.out] at ho3)); have n0_ := Aside0.mk (Kd.R_lower ho3 (below_size (by repeat (first | (with_reducible first | exact HB.out | apply below_alloc | apply pw_below_drewN | apply below_drew1) | exact HB.out)))); have n1_ := Aside0.mk (below_step (by repeat (first | (with_reducible first | exact HB.out | apply below_alloc | apply pw_below_drewN | apply below_drew1) | exact HB.out)) hb); clear HB; have HO323 := n0_; have HB := n1_; clear n0_ n1_; clear hb ho3)); try go_wp2_with (first | ((with_reducible refine gate_dst (N := 7) rfl ?_); refine Kd.R_lit Kd.bool _ 4 ?hg (N := 7) ?hd (xs := ([] : List Bool)) (inner := []) (ok := fun _ => True) (okp := fun _ => True) ?hr ?hp (fun _ hk => hk) trivial (Below.refl _ _) (Nat.le_refl _) (by simp) ?_; (case hd => rfl); (case hg => rfl); (case hr => first | (go_simp; done) | (go_simp; rfl)); (case hp => exact (Reps.none _ _)); intro v322 w2 ho3 hb hg_ hnew_; clear hg_ hnew_; (first | rw [← Ny321.out] at ho3 | (simp only [Int.reduceToNat] at ho3; rw [← Ny321.out] at ho3)); have n0_ := Aside0.mk (Kd.R_lower ho3 (below_size (by repeat (first | (with_reducible first | exact HB.out | apply below_alloc | apply pw_below_drewN | apply below_drew1) | exact HB.out)))); have n1_ := Aside0.mk (below_step (by repeat (first | (with_reducible first | exact HB.out | apply below_alloc | apply pw_below_drewN | apply below_drew1) | exact HB.out)) hb); clear HB; have HO323 := n0_; have HB := n1_; clear n0_ n1_; clear hb ho3)))
 go_loopg [3, 4] k (fun kq v3 v4 w' => ∃ (x3_1 : List Bool) (x4_1 : Int), v4 = .int .i64 x4_1 ∧ Aside0 (spec_activeOps.l0 kq l0 x3_1 x4_1 = some r) ∧ Aside0 (kq ≤ k) ∧ Aside0 (Kd.R Kd.bool 4 w' w.heap.size (fun _ => True) v3 x3_1) ∧ Aside0 (Below w.heap.size w w'))
 case atStart => exact ⟨(y321), (0), (by first | rfl | (simp; done) | (simp [*]; done)), H', ⟨Nat.le_refl _⟩, ⟨by (with_reducible repeat (first | apply Kd.R_alloc | apply Kd.R_drewN | apply Kd.R_drew)); exact HO323.out⟩, ⟨by repeat (first | (with_reducible first | exact HB.out | apply below_alloc | apply pw_below_drewN | apply below_drew1) | exact HB.out)⟩⟩
 case round =>
  clear H'
  try clear p2
  obtain ⟨x3_1, x4_1, rfl, HA, HK1, HO_3, HB⟩ := hrel
  cases gk with
  | zero => exact absurd HA.out (by simp [spec_activeOps.l0])
  | succ k1 =>
   have H := HA.out
   clear HA
   simp only [spec_activeOps.l0] at H
   by_cases c4 : x4_1 < (l0.length : Int)
   ·rw [if_pos c4] at H
    have c4b0 : decide (x4_1 < (l0.length : Int)) = true := decide_eq_true c4
    clear c4
    have H' := Aside0.mk H
    clear H
    go_wp2
    repeat (go_quiet (fail); try go_wp2)
    go_loopg [5, 6] k1 (fun kq v5 v6 w' => ∃ (x5_2 : Bool) (x6_2 : Int), v5 = .bool x5_2 ∧ v6 = .int .i64 x6_2 ∧ Aside0 (spec_activeOps.l1 kq l0 x3_1 x4_1 x5_2 x6_2 = some r) ∧ Aside0 (kq ≤ k1) ∧ Aside0 (Kd.R Kd.bool 4 w' w.heap.size (fun _ => True) u3 x3_1) ∧ Aside0 (Below w.heap.size w w'))
    case atStart => exact ⟨(true), (wrap64 (x4_1 + 1)), (by first | rfl | (simp; done) | (simp [*]; done)), (by first | rfl | (simp; done) | (simp [*]; done)), H', ⟨Nat.le_refl _⟩, ⟨by (with_reducible repeat (first | apply Kd.R_alloc | apply Kd.R_drewN | apply Kd.R_drew)); exact HO_3.out⟩, ⟨by repeat (first | (with_reducible first | exact HB.out | apply below_alloc | apply pw_below_drewN | apply below_drew1) | exact HB.out)⟩⟩
    case round =>
     clear H'
     try clear p2
     try clear c4
     try clear c4b0
     try clear p2
     obtain ⟨x5_2, x6_2, rfl, rfl, HA, HK2, HO_3, HB⟩ := hrel
     cases gk with
     | zero => exact absurd HA.out (by simp [spec_activeOps.l1])
     | succ k2 =>
      have H := HA.out
      clear HA
      simp only [spec_activeOps.l1] at H
      by_cases c5 : x6_2 < (l0.length : Int)
      ·rw [if_pos c5] at H
       have c5b0 : decide (x6_2 < (l0.length : Int)) = true := decide_eq_true c5
       clear c5
       by_cases c6 : 0 ≤ x6_2
       ·rw [if_pos c6] at H
        have c6b0 : decide (0 ≤ x6_2) = true := decide_eq_true c6
        clear c6
        by_cases c7 : ((rd_T30 l0 x6_2).f1) = 10
        ·rw [if_pos c7] at H
         have c7b0 : (((rd_T30 l0 x6_2).f1) == 10) = true := beq_iff_eq.mpr c7
         have c7b1 : (((rd_T30 l0 x6_2).f1) != 10) = false := bne_eq_false_iff_eq.mpr c7
         clear c7
         by_cases c8 : 0 ≤ x4_1
         ·rw [if_pos c8] at H
          have c8b0 : decide (0 ≤ x4_1) = true := decide_eq_true c8
          clear c8
          by_cases c9 : x4_1 < (l0.length : Int)
          ·rw [if_pos c9] at H
           have c9b0 : decide (x4_1 < (l0.length : Int)) = true := decide_eq_true c9
           clear c9
           by_cases c10 : (((rd_T30 l0 x6_2).f2.f0) == ((rd_T30 l0 x4_1).f0.f0) && (((rd_T30 l0 x6_2).f2.f1) == ((rd_T30 l0 x4_1).f0.f1))) = true
           ·rw [if_pos c10] at H
            have c10b0 : (((rd_T30 l0 x6_2).f2.f0) == ((rd_T30 l0 x4_1).f0.f0) && (((rd_T30 l0 x6_2).f2.f1) == ((rd_T30 l0 x4_1).f0.f1))) = true := c10
            (try (have c10b1 : decide (((rd_T30 l0 x6_2).f2.f0) = ((rd_T30 l0 x4_1).f0.f0) && (((rd_T30 l0 x6_2).f2.f1) == ((rd_T30 l0 x4_1).f0.f1))) = true := by simpa using c10))
            (try (have c10b2 : (((rd_T30 l0 x6_2).f2.f0) == ((rd_T30 l0 x4_1).f0.f0) && (((rd_T30 l0 x6_2).f2.f1) == ((rd_T30 l0 x4_1).f0.f1))) = true := by simpa using c10))
            clear c10
            by_cases c11 : ((rd_T30 l0 x6_2).f0.f1) = ((rd_T30 l0 x4_1).f0.f1)
            ·rw [if_pos c11] at H
             have c11b0 : (((rd_T30 l0 x6_2).f0.f1) == ((rd_T30 l0 x4_1).f0.f1)) = true := beq_iff_eq.mpr c11
             have c11b1 : (((rd_T30 l0 x6_2).f0.f1) != ((rd_T30 l0 x4_1).f0.f1)) = false := bne_eq_false_iff_eq.mpr c11
             clear c11
             by_cases c12 : ((rd_T30 l0 x4_1).f1) = 10
             ·rw [if_pos c12] at H
              have c12b0 : (((rd_T30 l0 x4_1).f1) == 10) = true := beq_iff_eq.mpr c12
              have c12b1 : (((rd_T30 l0 x4_1).f1) != 10) = false := bne_eq_false_iff_eq.mpr c12
              clear c12
              have H' := Aside0.mk H
              clear H
              have p324 : 0 ≤ (x6_2 : Int) := of_decide_eq_true (by first | (with_reducible assumption) | assumption)
              have q324 : x6_2 < (l0.length : Int) := of_decide_eq_true (by first | (with_reducible assumption) | assumption)
              obtain ⟨ad324, e324, hx324_0, hx324_1, hx324_2, hx324_3, hx324_4, hx324_5, hx324_6, hx324_7, hx324_8, hx324_9, hx324_10, hx324_11⟩ := at_T30 HR0.out x6_2 p324 q324
              cases e324
              replace hx324_0 := (HB.out.cell (World.block_lt_of_cell? w _ hx324_0)).trans hx324_0
              replace hx324_1 := (HB.out.cell (World.block_lt_of_cell? w _ hx324_1)).trans hx324_1
              replace hx324_2 := (HB.out.cell (World.block_lt_of_cell? w _ hx324_2)).trans hx324_2
              replace hx324_3 := (HB.out.cell (World.block_lt_of_cell? w _ hx324_3)).trans hx324_3
              replace hx324_4 := (HB.out.cell (World.block_lt_of_cell? w _ hx324_4)).trans hx324_4
              replace hx324_5 := (HB.out.cell (World.block_lt_of_cell? w _ hx324_5)).trans hx324_5
              replace hx324_6 := (HB.out.cell (World.block_lt_of_cell? w _ hx324_6)).trans hx324_6
              replace hx324_7 := (HB.out.cell (World.block_lt_of_cell? w _ hx324_7)).trans hx324_7
              replace hx324_8 := (HB.out.cell (World.block_lt_of_cell? w _ hx324_8)).trans hx324_8
              replace hx324_9 := (HB.out.cell (World.block_lt_of_cell? w _ hx324_9)).trans hx324_9
              replace hx324_10 := (HB.out.cell (World.block_lt_of_cell? w _ hx324_10)).trans hx324_10
              replace hx324_11 := (HB.out.cell (World.block_lt_of_cell? w _ hx324_11)).trans hx324_11
              replace p324 := eq_true p324
              replace q324 := eq_true q324
              have p325 : 0 ≤ (x6_2 : Int) := of_decide_eq_true (by first | (with_reducible assumption) | assumption)
              have q325 : x6_2 < (l0.length : Int) := of_decide_eq_true (by first | (with_reducible assumption) | assumption)
              obtain ⟨ad325, e325, hx325_0, hx325_1, hx325_2, hx325_3, hx325_4, hx325_5, hx325_6, hx325_7, hx325_8, hx325_9, hx325_10, hx325_11⟩ := at_T30 HR0.out x6_2 p325 q325
              obtain rfl : ad324 = ad325 := (by injection e325)
              replace hx325_0 := (HB.out.cell (World.block_lt_of_cell? w _ hx325_0)).trans hx325_0
              replace hx325_1 := (HB.out.cell (World.block_lt_of_cell? w _ hx325_1)).trans hx325_1
              replace hx325_2 := (HB.out.cell (World.block_lt_of_cell? w _ hx325_2)).trans hx325_2
              replace hx325_3 := (HB.out.cell (World.block_lt_of_cell? w _ hx325_3)).trans hx325_3
              replace hx325_4 := (HB.out.cell (World.block_lt_of_cell? w _ hx325_4)).trans hx325_4
              replace hx325_5 := (HB.out.cell (World.block_lt_of_cell? w _ hx325_5)).trans hx325_5
              replace hx325_6 := (HB.out.cell (World.block_lt_of_cell? w _ hx325_6)).trans hx325_6
              replace hx325_7 := (HB.out.cell (World.block_lt_of_cell? w _ hx325_7)).trans hx325_7
              replace hx325_8 := (HB.out.cell (World.block_lt_of_cell? w _ hx325_8)).trans hx325_8
              replace hx325_9 := (HB.out.cell (World.block_lt_of_cell? w _ hx325_9)).trans hx325_9
              replace hx325_10 := (HB.out.cell (World.block_lt_of_cell? w _ hx325_10)).trans hx325_10
              replace hx325_11 := (HB.out.cell (World.block_lt_of_cell? w _ hx325_11)).trans hx325_11
              replace p325 := eq_true p325
              replace q325 := eq_true q325
              have p326 : 0 ≤ (x4_1 : Int) := of_decide_eq_true (by first | (with_reducible assumption) | assumption)
              have q326 : x4_1 < (l0.length : Int) := of_decide_eq_true (by first | (with_reducible assumption) | assumption)
              obtain ⟨ad326, e326, hx326_0, hx326_1, hx326_2, hx326_3, hx326_4, hx326_5, hx326_6, hx326_7, hx326_8, hx326_9, hx326_10, hx326_11⟩ := at_T30 HR0.out x4_1 p326 q326
              obtain rfl : ad324 = ad326 := (by injection e326)
              replace hx326_0 := (HB.out.cell (World.block_lt_of_cell? w _ hx326_0)).trans hx326_0
              replace hx326_1 := (HB.out.cell (World.block_lt_of_cell? w _ hx326_1)).trans hx326_1
              replace hx326_2 := (HB.out.cell (World.block_lt_of_cell? w _ hx326_2)).trans hx326_2
              replace hx326_3 := (HB.out.cell (World.block_lt_of_cell? w _ hx326_3)).trans hx326_3
              replace hx326_4 := (HB.out.cell (World.block_lt_of_cell? w _ hx326_4)).trans hx326_4
              replace hx326_5 := (HB.out.cell (World.block_lt_of_cell? w _ hx326_5)).trans hx326_5
              replace hx326_6 := (HB.out.cell (World.block_lt_of_cell? w _ hx326_6)).trans hx326_6
              replace hx326_7 := (HB.out.cell (World.block_lt_of_cell? w _ hx326_7)).trans hx326_7
              replace hx326_8 := (HB.out.cell (World.block_lt_of_cell? w _ hx326_8)).trans hx326_8
              replace hx326_9 := (HB.out.cell (World.block_lt_of_cell? w _ hx326_9)).trans hx326_9
              replace hx326_10 := (HB.out.cell (World.block_lt_of_cell? w _ hx326_10)).trans hx326_10
              replace hx326_11 := (HB.out.cell (World.block_lt_of_cell? w _ hx326_11)).trans hx326_11
              replace p326 := eq_true p326
              replace q326 := eq_true q326
              have p327 : 0 ≤ (x6_2 : Int) := of_decide_eq_true (by first | (with_reducible assumption) | assumption)
              have q327 : x6_2 < (l0.length : Int) := of_decide_eq_true (by first | (with_reducible assumption) | assumption)
              obtain ⟨ad327, e327, hx327_0, hx327_1, hx327_2, hx327_3, hx327_4, hx327_5, hx327_6, hx327_7, hx327_8, hx327_9, hx327_10, hx327_11⟩ := at_T30 HR0.out x6_2 p327 q327
              obtain rfl : ad324 = ad327 := (by injection e327)
              replace hx327_0 := (HB.out.cell (World.block_lt_of_cell? w _ hx327_0)).trans hx327_0
              replace hx327_1 := (HB.out.cell (World.block_lt_of_cell? w _ hx327_1)).trans hx327_1
              replace hx327_2 := (HB.out.cell (World.block_lt_of_cell? w _ hx327_2)).trans hx327_2
              replace hx327_3 := (HB.out.cell (World.block_lt_of_cell? w _ hx327_3)).trans hx327_3
              replace hx327_4 := (HB.out.cell (World.block_lt_of_cell? w _ hx327_4)).trans hx327_4
              replace hx327_5 := (HB.out.cell (World.block_lt_of_cell? w _ hx327_5)).trans hx327_5
              replace hx327_6 := (HB.out.cell (World.block_lt_of_cell? w _ hx327_6)).trans hx327_6
              replace hx327_7 := (HB.out.cell (World.block_lt_of_cell? w _ hx327_7)).trans hx327_7
              replace hx327_8 := (HB.out.cell (World.block_lt_of_cell? w _ hx327_8)).trans hx327_8
              replace hx327_9 := (HB.out.cell (World.block_lt_of_cell? w _ hx327_9)).trans hx327_9
              replace hx327_10 := (HB.out.cell (World.block_lt_of_cell? w _ hx327_10)).trans hx327_10
              replace hx327_11 := (HB.out.cell (World.block_lt_of_cell? w _ hx327_11)).trans hx327_11
              replace p327 := eq_true p327
              replace q327 := eq_true q327
              have p328 : 0 ≤ (x4_1 : Int) := of_decide_eq_true (by first | (with_reducible assumption) | assumption)
              have q328 : x4_1 < (l0.length : Int) := of_decide_eq_true (by first | (with_reducible assumption) | assumption)
              obtain ⟨ad328, e328, hx328_0, hx328_1, hx328_2, hx328_3, hx328_4, hx328_5, hx328_6, hx328_7, hx328_8, hx328_9, hx328_10, hx328_11⟩ := at_T30 HR0.out x4_1 p328 q328
              obtain rfl : ad324 = ad328 := (by injection e328)
              replace hx328_0 := (HB.out.cell (World.block_lt_of_cell? w _ hx328_0)).trans hx328_0
              replace hx328_1 := (HB.out.cell (World.block_lt_of_cell? w _ hx328_1)).trans hx328_1
              replace hx328_2 := (HB.out.cell (World.block_lt_of_cell? w _ hx328_2)).trans hx328_2
              replace hx328_3 := (HB.out.cell (World.block_lt_of_cell? w _ hx328_3)).trans hx328_3
              replace hx328_4 := (HB.out.cell (World.block_lt_of_cell? w _ hx328_4)).trans hx328_4
              replace hx328_5 := (HB.out.cell (World.block_lt_of_cell? w _ hx328_5)).trans hx328_5
              replace hx328_6 := (HB.out.cell (World.block_lt_of_cell? w _ hx328_6)).trans hx328_6
              replace hx328_7 := (HB.out.cell (World.block_lt_of_cell? w _ hx328_7)).trans hx328_7
              replace hx328_8 := (HB.out.cell (World.block_lt_of_cell? w _ hx328_8)).trans hx328_8
              replace hx328_9 := (HB.out.cell (World.block_lt_of_cell? w _ hx328_9)).trans hx328_9
              replace hx328_10 := (HB.out.cell (World.block_lt_of_cell? w _ hx328_10)).trans hx328_10
              replace hx328_11 := (HB.out.cell (World.block_lt_of_cell? w _ hx328_11)).trans hx328_11
              replace p328 := eq_true p328
              replace q328 := eq_true q328
              have p329 : 0 ≤ (x4_1 : Int) := of_decide_eq_true (by first | (with_reducible assumption) | assumption)
              have q329 : x4_1 < (l0.length : Int) := of_decide_eq_true (by first | (with_reducible assumption) | assumption)
              obtain ⟨ad329, e329, hx329_0, hx329_1, hx329_2, hx329_3, hx329_4, hx329_5, hx329_6, hx329_7, hx329_8, hx329_9, hx329_10, hx329_11⟩ := at_T30 HR0.out x4_1 p329 q329
              obtain rfl : ad324 = ad329 := (by injection e329)
              replace hx329_0 := (HB.out.cell (World.block_lt_of_cell? w _ hx329_0)).trans hx329_0
              replace hx329_1 := (HB.out.cell (World.block_lt_of_cell? w _ hx329_1)).trans hx329_1
              replace hx329_2 := (HB.out.cell (World.block_lt_of_cell? w _ hx329_2)).trans hx329_2
              replace hx329_3 := (HB.out.cell (World.block_lt_of_cell? w _ hx329_3)).trans hx329_3
              replace hx329_4 := (HB.out.cell (World.block_lt_of_cell? w _ hx329_4)).trans hx329_4
              replace hx329_5 := (HB.out.cell (World.block_lt_of_cell? w _ hx329_5)).trans hx329_5
              replace hx329_6 := (HB.out.cell (World.block_lt_of_cell? w _ hx329_6)).trans hx329_6
              replace hx329_7 := (HB.out.cell (World.block_lt_of_cell? w _ hx329_7)).trans hx329_7
              replace hx329_8 := (HB.out.cell (World.block_lt_of_cell? w _ hx329_8)).trans hx329_8
              replace hx329_9 := (HB.out.cell (World.block_lt_of_cell? w _ hx329_9)).trans hx329_9
              replace hx329_10 := (HB.out.cell (World.block_lt_of_cell? w _ hx329_10)).trans hx329_10
              replace hx329_11 := (HB.out.cell (World.block_lt_of_cell? w _ hx329_11)).trans hx329_11
              replace p329 := eq_true p329
              replace q329 := eq_true q329
              go_wp2
              repeat (go_quiet (fail); try go_wp2)
              go_roundg k2
              case measure => have := HK1.out; have := HK2.out; omega
              case rel => exact ⟨(x5_2), (wrap64 (x6_2 + 1)), (by first | rfl | (simp; done) | (simp [*]; done)), (by first | rfl | (simp; done) | (simp [*]; done)), H', ⟨by have := HK1.out; have := HK2.out; omega⟩, ⟨by (with_reducible repeat (first | apply Kd.R_alloc | apply Kd.R_drewN | apply Kd.R_drew)); exact HO_3.out⟩, ⟨by repeat (first | (with_reducible first | exact HB.out | apply below_alloc | apply pw_below_drewN | apply below_drew1) | exact HB.out)⟩⟩
             ·rw [if_neg c12] at H
              have c12b0 : (((rd_T30 l0 x4_1).f1) == 10) = false := beq_eq_false_iff_ne.mpr c12
              have c12b1 : (((rd_T30 l0 x4_1).f1) != 10) = true := bne_iff_ne.mpr c12
              have H' := Aside0.mk H
              clear H
              have p324 : 0 ≤ (x6_2 : Int) := of_decide_eq_true (by first | (with_reducible assumption) | assumption)
              have q324 : x6_2 < (l0.length : Int) := of_decide_eq_true (by first | (with_reducible assumption) | assumption)
              obtain ⟨ad324, e324, hx324_0, hx324_1, hx324_2, hx324_3, hx324_4, hx324_5, hx324_6, hx324_7, hx324_8, hx324_9, hx324_10, hx324_11⟩ := at_T30 HR0.out x6_2 p324 q324
              cases e324
              replace hx324_0 := (HB.out.cell (World.block_lt_of_cell? w _ hx324_0)).trans hx324_0
              replace hx324_1 := (HB.out.cell (World.block_lt_of_cell? w _ hx324_1)).trans hx324_1
              replace hx324_2 := (HB.out.cell (World.block_lt_of_cell? w _ hx324_2)).trans hx324_2
              replace hx324_3 := (HB.out.cell (World.block_lt_of_cell? w _ hx324_3)).trans hx324_3
              replace hx324_4 := (HB.out.cell (World.block_lt_of_cell? w _ hx324_4)).trans hx324_4
              replace hx324_5 := (HB.out.cell (World.block_lt_of_cell? w _ hx324_5)).trans hx324_5
              replace hx324_6 := (HB.out.cell (World.block_lt_of_cell? w _ hx324_6)).trans hx324_6
              replace hx324_7 := (HB.out.cell (World.block_lt_of_cell? w _ hx324_7)).trans hx324_7
              replace hx324_8 := (HB.out.cell (World.block_lt_of_cell? w _ hx324_8)).trans hx324_8
              replace hx324_9 := (HB.out.cell (World.block_lt_of_cell? w _ hx324_9)).trans hx324_9
              replace hx324_10 := (HB.out.cell (World.block_lt_of_cell? w _ hx324_10)).trans hx324_10
              replace hx324_11 := (HB.out.cell (World.block_lt_of_cell? w _ hx324_11)).trans hx324_11
              replace p324 := eq_true p324
              replace q324 := eq_true q324
              have p325 : 0 ≤ (x6_2 : Int) := of_decide_eq_true (by first | (with_reducible assumption) | assumption)
              have q325 : x6_2 < (l0.length : Int) := of_decide_eq_true (by first | (with_reducible assumption) | assumption)
              obtain ⟨ad325, e325, hx325_0, hx325_1, hx325_2, hx325_3, hx325_4, hx325_5, hx325_6, hx325_7, hx325_8, hx325_9, hx325_10, hx325_11⟩ := at_T30 HR0.out x6_2 p325 q325
              obtain rfl : ad324 = ad325 := (by injection e325)
              replace hx325_0 := (HB.out.cell (World.block_lt_of_cell? w _ hx325_0)).trans hx325_0
              replace hx325_1 := (HB.out.cell (World.block_lt_of_cell? w _ hx325_1)).trans hx325_1
              replace hx325_2 := (HB.out.cell (World.block_lt_of_cell? w _ hx325_2)).trans hx325_2
              replace hx325_3 := (HB.out.cell (World.block_lt_of_cell? w _ hx325_3)).trans hx325_3
              replace hx325_4 := (HB.out.cell (World.block_lt_of_cell? w _ hx325_4)).trans hx325_4
              replace hx325_5 := (HB.out.cell (World.block_lt_of_cell? w _ hx325_5)).trans hx325_5
              replace hx325_6 := (HB.out.cell (World.block_lt_of_cell? w _ hx325_6)).trans hx325_6
              replace hx325_7 := (HB.out.cell (World.block_lt_of_cell? w _ hx325_7)).trans hx325_7
              replace hx325_8 := (HB.out.cell (World.block_lt_of_cell? w _ hx325_8)).trans hx325_8
              replace hx325_9 := (HB.out.cell (World.block_lt_of_cell? w _ hx325_9)).trans hx325_9
              replace hx325_10 := (HB.out.cell (World.block_lt_of_cell? w _ hx325_10)).trans hx325_10
              replace hx325_11 := (HB.out.cell (World.block_lt_of_cell? w _ hx325_11)).trans hx325_11
              replace p325 := eq_true p325
              replace q325 := eq_true q325
              have p326 : 0 ≤ (x4_1 : Int) := of_decide_eq_true (by first | (with_reducible assumption) | assumption)
              have q326 : x4_1 < (l0.length : Int) := of_decide_eq_true (by first | (with_reducible assumption) | assumption)
              obtain ⟨ad326, e326, hx326_0, hx326_1, hx326_2, hx326_3, hx326_4, hx326_5, hx326_6, hx326_7, hx326_8, hx326_9, hx326_10, hx326_11⟩ := at_T30 HR0.out x4_1 p326 q326
              obtain rfl : ad324 = ad326 := (by injection e326)
              replace hx326_0 := (HB.out.cell (World.block_lt_of_cell? w _ hx326_0)).trans hx326_0
              replace hx326_1 := (HB.out.cell (World.block_lt_of_cell? w _ hx326_1)).trans hx326_1
              replace hx326_2 := (HB.out.cell (World.block_lt_of_cell? w _ hx326_2)).trans hx326_2
              replace hx326_3 := (HB.out.cell (World.block_lt_of_cell? w _ hx326_3)).trans hx326_3
              replace hx326_4 := (HB.out.cell (World.block_lt_of_cell? w _ hx326_4)).trans hx326_4
              replace hx326_5 := (HB.out.cell (World.block_lt_of_cell? w _ hx326_5)).trans hx326_5
              replace hx326_6 := (HB.out.cell (World.block_lt_of_cell? w _ hx326_6)).trans hx326_6
              replace hx326_7 := (HB.out.cell (World.block_lt_of_cell? w _ hx326_7)).trans hx326_7
              replace hx326_8 := (HB.out.cell (World.block_lt_of_cell? w _ hx326_8)).trans hx326_8
              replace hx326_9 := (HB.out.cell (World.block_lt_of_cell? w _ hx326_9)).trans hx326_9
              replace hx326_10 := (HB.out.cell (World.block_lt_of_cell? w _ hx326_10)).trans hx326_10
              replace hx326_11 := (HB.out.cell (World.block_lt_of_cell? w _ hx326_11)).trans hx326_11
              replace p326 := eq_true p326
              replace q326 := eq_true q326
              have p327 : 0 ≤ (x6_2 : Int) := of_decide_eq_true (by first | (with_reducible assumption) | assumption)
              have q327 : x6_2 < (l0.length : Int) := of_decide_eq_true (by first | (with_reducible assumption) | assumption)
              obtain ⟨ad327, e327, hx327_0, hx327_1, hx327_2, hx327_3, hx327_4, hx327_5, hx327_6, hx327_7, hx327_8, hx327_9, hx327_10, hx327_11⟩ := at_T30 HR0.out x6_2 p327 q327
              obtain rfl : ad324 = ad327 := (by injection e327)
              replace hx327_0 := (HB.out.cell (World.block_lt_of_cell? w _ hx327_0)).trans hx327_0
              replace hx327_1 := (HB.out.cell (World.block_lt_of_cell? w _ hx327_1)).trans hx327_1
              replace hx327_2 := (HB.out.cell (World.block_lt_of_cell? w _ hx327_2)).trans hx327_2
              replace hx327_3 := (HB.out.cell (World.block_lt_of_cell? w _ hx327_3)).trans hx327_3
              replace hx327_4 := (HB.out.cell (World.block_lt_of_cell? w _ hx327_4)).trans hx327_4
              replace hx327_5 := (HB.out.cell (World.block_lt_of_cell? w _ hx327_5)).trans hx327_5
              replace hx327_6 := (HB.out.cell (World.block_lt_of_cell? w _ hx327_6)).trans hx327_6
              replace hx327_7 := (HB.out.cell (World.block_lt_of_cell? w _ hx327_7)).trans hx327_7
              replace hx327_8 := (HB.out.cell (World.block_lt_of_cell? w _ hx327_8)).trans hx327_8
              replace hx327_9 := (HB.out.cell (World.block_lt_of_cell? w _ hx327_9)).trans hx327_9
              replace hx327_10 := (HB.out.cell (World.block_lt_of_cell? w _ hx327_10)).trans hx327_10
              replace hx327_11 := (HB.out.cell (World.block_lt_of_cell? w _ hx327_11)).trans hx327_11
              replace p327 := eq_true p327
              replace q327 := eq_true q327
              have p328 : 0 ≤ (x4_1 : Int) := of_decide_eq_true (by first | (with_reducible assumption) | assumption)
              have q328 : x4_1 < (l0.length : Int) := of_decide_eq_true (by first | (with_reducible assumption) | assumption)
              obtain ⟨ad328, e328, hx328_0, hx328_1, hx328_2, hx328_3, hx328_4, hx328_5, hx328_6, hx328_7, hx328_8, hx328_9, hx328_10, hx328_11⟩ := at_T30 HR0.out x4_1 p328 q328
              obtain rfl : ad324 = ad328 := (by injection e328)
              replace hx328_0 := (HB.out.cell (World.block_lt_of_cell? w _ hx328_0)).trans hx328_0
              replace hx328_1 := (HB.out.cell (World.block_lt_of_cell? w _ hx328_1)).trans hx328_1
              replace hx328_2 := (HB.out.cell (World.block_lt_of_cell? w _ hx328_2)).trans hx328_2
              replace hx328_3 := (HB.out.cell (World.block_lt_of_cell? w _ hx328_3)).trans hx328_3
              replace hx328_4 := (HB.out.cell (World.block_lt_of_cell? w _ hx328_4)).trans hx328_4
              replace hx328_5 := (HB.out.cell (World.block_lt_of_cell? w _ hx328_5)).trans hx328_5
              replace hx328_6 := (HB.out.cell (World.block_lt_of_cell? w _ hx328_6)).trans hx328_6
              replace hx328_7 := (HB.out.cell (World.block_lt_of_cell? w _ hx328_7)).trans hx328_7
              replace hx328_8 := (HB.out.cell (World.block_lt_of_cell? w _ hx328_8)).trans hx328_8
              replace hx328_9 := (HB.out.cell (World.block_lt_of_cell? w _ hx328_9)).trans hx328_9
              replace hx328_10 := (HB.out.cell (World.block_lt_of_cell? w _ hx328_10)).trans hx328_10
              replace hx328_11 := (HB.out.cell (World.block_lt_of_cell? w _ hx328_11)).trans hx328_11
              replace p328 := eq_true p328
              replace q328 := eq_true q328
              have p329 : 0 ≤ (x4_1 : Int) := of_decide_eq_true (by first | (with_reducible assumption) | assumption)
              have q329 : x4_1 < (l0.length : Int) := of_decide_eq_true (by first | (with_reducible assumption) | assumption)
              obtain ⟨ad329, e329, hx329_0, hx329_1, hx329_2, hx329_3, hx329_4, hx329_5, hx329_6, hx329_7, hx329_8, hx329_9, hx329_10, hx329_11⟩ := at_T30 HR0.out x4_1 p329 q329
              obtain rfl : ad324 = ad329 := (by injection e329)
              replace hx329_0 := (HB.out.cell (World.block_lt_of_cell? w _ hx329_0)).trans hx329_0
              replace hx329_1 := (HB.out.cell (World.block_lt_of_cell? w _ hx329_1)).trans hx329_1
              replace hx329_2 := (HB.out.cell (World.block_lt_of_cell? w _ hx329_2)).trans hx329_2
              replace hx329_3 := (HB.out.cell (World.block_lt_of_cell? w _ hx329_3)).trans hx329_3
              replace hx329_4 := (HB.out.cell (World.block_lt_of_cell? w _ hx329_4)).trans hx329_4
              replace hx329_5 := (HB.out.cell (World.block_lt_of_cell? w _ hx329_5)).trans hx329_5
              replace hx329_6 := (HB.out.cell (World.block_lt_of_cell? w _ hx329_6)).trans hx329_6
              replace hx329_7 := (HB.out.cell (World.block_lt_of_cell? w _ hx329_7)).trans hx329_7
              replace hx329_8 := (HB.out.cell (World.block_lt_of_cell? w _ hx329_8)).trans hx329_8
              replace hx329_9 := (HB.out.cell (World.block_lt_of_cell? w _ hx329_9)).trans hx329_9
              replace hx329_10 := (HB.out.cell (World.block_lt_of_cell? w _ hx329_10)).trans hx329_10
              replace hx329_11 := (HB.out.cell (World.block_lt_of_cell? w _ hx329_11)).trans hx329_11
              replace p329 := eq_true p329
              replace q329 := eq_true q329
              have p330 : 0 ≤ (x6_2 : Int) := of_decide_eq_true (by first | (with_reducible assumption) | assumption)
              have q330 : x6_2 < (l0.length : Int) := of_decide_eq_true (by first | (with_reducible assumption) | assumption)
              obtain ⟨ad330, e330, hx330_0, hx330_1, hx330_2, hx330_3, hx330_4, hx330_5, hx330_6, hx330_7, hx330_8, hx330_9, hx330_10, hx330_11⟩ := at_T30 HR0.out x6_2 p330 q330
              obtain rfl : ad324 = ad330 := (by injection e330)
              replace hx330_0 := (HB.out.cell (World.block_lt_of_cell? w _ hx330_0)).trans hx330_0
              replace hx330_1 := (HB.out.cell (World.block_lt_of_cell? w _ hx330_1)).trans hx330_1
              replace hx330_2 := (HB.out.cell (World.block_lt_of_cell? w _ hx330_2)).trans hx330_2
              replace hx330_3 := (HB.out.cell (World.block_lt_of_cell? w _ hx330_3)).trans hx330_3
              replace hx330_4 := (HB.out.cell (World.block_lt_of_cell? w _ hx330_4)).trans hx330_4
              replace hx330_5 := (HB.out.cell (World.block_lt_of_cell? w _ hx330_5)).trans hx330_5
              replace hx330_6 := (HB.out.cell (World.block_lt_of_cell? w _ hx330_6)).trans hx330_6
              replace hx330_7 := (HB.out.cell (World.block_lt_of_cell? w _ hx330_7)).trans hx330_7
              replace hx330_8 := (HB.out.cell (World.block_lt_of_cell? w _ hx330_8)).trans hx330_8
              replace hx330_9 := (HB.out.cell (World.block_lt_of_cell? w _ hx330_9)).trans hx330_9
              replace hx330_10 := (HB.out.cell (World.block_lt_of_cell? w _ hx330_10)).trans hx330_10
              replace hx330_11 := (HB.out.cell (World.block_lt_of_cell? w _ hx330_11)).trans hx330_11
              replace p330 := eq_true p330
              replace q330 := eq_true q330
              go_wp2
              repeat (go_quiet (fail); try go_wp2)
              go_roundg k2
              case measure => have := HK1.out; have := HK2.out; omega
              case rel => exact ⟨((rd_T30 l0 x6_2).f6), (wrap64 (x6_2 + 1)), (by first | rfl | (simp; done) | (simp [*]; done)), (by first | rfl | (simp; done) | (simp [*]; done)), H', ⟨by have := HK1.out; have := HK2.out; omega⟩, ⟨by (with_reducible repeat (first | apply Kd.R_alloc | apply Kd.R_drewN | apply Kd.R_drew)); exact HO_3.out⟩, ⟨by repeat (first | (with_reducible first | exact HB.out | apply below_alloc | apply pw_below_drewN | apply below_drew1) | exact HB.out)⟩⟩
            ·rw [if_neg c11] at H
             have c11b0 : (((rd_T30 l0 x6_2).f0.f1) == ((rd_T30 l0 x4_1).f0.f1)) = false := beq_eq_false_iff_ne.mpr c11
             have c11b1 : (((rd_T30 l0 x6_2).f0.f1) != ((rd_T30 l0 x4_1).f0.f1)) = true := bne_iff_ne.mpr c11
             have H' := Aside0.mk H
             clear H
             have p324 : 0 ≤ (x6_2 : Int) := of_decide_eq_true (by first | (with_reducible assumption) | assumption)
             have q324 : x6_2 < (l0.length : Int) := of_decide_eq_true (by first | (with_reducible assumption) | assumption)
             obtain ⟨ad324, e324, hx324_0, hx324_1, hx324_2, hx324_3, hx324_4, hx324_5, hx324_6, hx324_7, hx324_8, hx324_9, hx324_10, hx324_11⟩ := at_T30 HR0.out x6_2 p324 q324
             cases e324
             replace hx324_0 := (HB.out.cell (World.block_lt_of_cell? w _ hx324_0)).trans hx324_0
             replace hx324_1 := (HB.out.cell (World.block_lt_of_cell? w _ hx324_1)).trans hx324_1
             replace hx324_2 := (HB.out.cell (World.block_lt_of_cell? w _ hx324_2)).trans hx324_2
             replace hx324_3 := (HB.out.cell (World.block_lt_of_cell? w _ hx324_3)).trans hx324_3
             replace hx324_4 := (HB.out.cell (World.block_lt_of_cell? w _ hx324_4)).trans hx324_4
             replace hx324_5 := (HB.out.cell (World.block_lt_of_cell? w _ hx324_5)).trans hx324_5
             replace hx324_6 := (HB.out.cell (World.block_lt_of_cell? w _ hx324_6)).trans hx324_6
             replace hx324_7 := (HB.out.cell (World.block_lt_of_cell? w _ hx324_7)).trans hx324_7
             replace hx324_8 := (HB.out.cell (World.block_lt_of_cell? w _ hx324_8)).trans hx324_8
             replace hx324_9 := (HB.out.cell (World.block_lt_of_cell? w _ hx324_9)).trans hx324_9
             replace hx324_10 := (HB.out.cell (World.block_lt_of_cell? w _ hx324_10)).trans hx324_10
             replace hx324_11 := (HB.out.cell (World.block_lt_of_cell? w _ hx324_11)).trans hx324_11
             replace p324 := eq_true p324
             replace q324 := eq_true q324
             have p325 : 0 ≤ (x6_2 : Int) := of_decide_eq_true (by first | (with_reducible assumption) | assumption)
             have q325 : x6_2 < (l0.length : Int) := of_decide_eq_true (by first | (with_reducible assumption) | assumption)
             obtain ⟨ad325, e325, hx325_0, hx325_1, hx325_2, hx325_3, hx325_4, hx325_5, hx325_6, hx325_7, hx325_8, hx325_9, hx325_10, hx325_11⟩ := at_T30 HR0.out x6_2 p325 q325
             obtain rfl : ad324 = ad325 := (by injection e325)
             replace hx325_0 := (HB.out.cell (World.block_lt_of_cell? w _ hx325_0)).trans hx325_0
             replace hx325_1 := (HB.out.cell (World.block_lt_of_cell? w _ hx325_1)).trans hx325_1
             replace hx325_2 := (HB.out.cell (World.block_lt_of_cell? w _ hx325_2)).trans hx325_2
             replace hx325_3 := (HB.out.cell (World.block_lt_of_cell? w _ hx325_3)).trans hx325_3
             replace hx325_4 := (HB.out.cell (World.block_lt_of_cell? w _ hx325_4)).trans hx325_4
             replace hx325_5 := (HB.out.cell (World.block_lt_of_cell? w _ hx325_5)).trans hx325_5
             replace hx325_6 := (HB.out.cell (World.block_lt_of_cell? w _ hx325_6)).trans hx325_6
             replace hx325_7 := (HB.out.cell (World.block_lt_of_cell? w _ hx325_7)).trans hx325_7
             replace hx325_8 := (HB.out.cell (World.block_lt_of_cell? w _ hx325_8)).trans hx325_8
             replace hx325_9 := (HB.out.cell (World.block_lt_of_cell? w _ hx325_9)).trans hx325_9
             replace hx325_10 := (HB.out.cell (World.block_lt_of_cell? w _ hx325_10)).trans hx325_10
             replace hx325_11 := (HB.out.cell (World.block_lt_of_cell? w _ hx325_11)).trans hx325_11
             replace p325 := eq_true p325
             replace q325 := eq_true q325
             have p326 : 0 ≤ (x4_1 : Int) := of_decide_eq_true (by first | (with_reducible assumption) | assumption)
             have q326 : x4_1 < (l0.length : Int) := of_decide_eq_true (by first | (with_reducible assumption) | assumption)
             obtain ⟨ad326, e326, hx326_0, hx326_1, hx326_2, hx326_3, hx326_4, hx326_5, hx326_6, hx326_7, hx326_8, hx326_9, hx326_10, hx326_11⟩ := at_T30 HR0.out x4_1 p326 q326
             obtain rfl : ad324 = ad326 := (by injection e326)
             replace hx326_0 := (HB.out.cell (World.block_lt_of_cell? w _ hx326_0)).trans hx326_0
             replace hx326_1 := (HB.out.cell (World.block_lt_of_cell? w _ hx326_1)).trans hx326_1
             replace hx326_2 := (HB.out.cell (World.block_lt_of_cell? w _ hx326_2)).trans hx326_2
             replace hx326_3 := (HB.out.cell (World.block_lt_of_cell? w _ hx326_3)).trans hx326_3
             replace hx326_4 := (HB.out.cell (World.block_lt_of_cell? w _ hx326_4)).trans hx326_4
             replace hx326_5 := (HB.out.cell (World.block_lt_of_cell? w _ hx326_5)).trans hx326_5
             replace hx326_6 := (HB.out.cell (World.block_lt_of_cell? w _ hx326_6)).trans hx326_6
             replace hx326_7 := (HB.out.cell (World.block_lt_of_cell? w _ hx326_7)).trans hx326_7
             replace hx326_8 := (HB.out.cell (World.block_lt_of_cell? w _ hx326_8)).trans hx326_8
             replace hx326_9 := (HB.out.cell (World.block_lt_of_cell? w _ hx326_9)).trans hx326_9
             replace hx326_10 := (HB.out.cell (World.block_lt_of_cell? w _ hx326_10)).trans hx326_10
             replace hx326_11 := (HB.out.cell (World.block_lt_of_cell? w _ hx326_11)).trans hx326_11
             replace p326 := eq_true p326
             replace q326 := eq_true q326
             have p327 : 0 ≤ (x6_2 : Int) := of_decide_eq_true (by first | (with_reducible assumption) | assumption)
             have q327 : x6_2 < (l0.length : Int) := of_decide_eq_true (by first | (with_reducible assumption) | assumption)
             obtain ⟨ad327, e327, hx327_0, hx327_1, hx327_2, hx327_3, hx327_4, hx327_5, hx327_6, hx327_7, hx327_8, hx327_9, hx327_10, hx327_11⟩ := at_T30 HR0.out x6_2 p327 q327
             obtain rfl : ad324 = ad327 := (by injection e327)
             replace hx327_0 := (HB.out.cell (World.block_lt_of_cell? w _ hx327_0)).trans hx327_0
             replace hx327_1 := (HB.out.cell (World.block_lt_of_cell? w _ hx327_1)).trans hx327_1
             replace hx327_2 := (HB.out.cell (World.block_lt_of_cell? w _ hx327_2)).trans hx327_2
             replace hx327_3 := (HB.out.cell (World.block_lt_of_cell? w _ hx327_3)).trans hx327_3
             replace hx327_4 := (HB.out.cell (World.block_lt_of_cell? w _ hx327_4)).trans hx327_4
             replace hx327_5 := (HB.out.cell (World.block_lt_of_cell? w _ hx327_5)).trans hx327_5
             replace hx327_6 := (HB.out.cell (World.block_lt_of_cell? w _ hx327_6)).trans hx327_6
             replace hx327_7 := (HB.out.cell (World.block_lt_of_cell? w _ hx327_7)).trans hx327_7
             replace hx327_8 := (HB.out.cell (World.block_lt_of_cell? w _ hx327_8)).trans hx327_8
             replace hx327_9 := (HB.out.cell (World.block_lt_of_cell? w _ hx327_9)).trans hx327_9
             replace hx327_10 := (HB.out.cell (World.block_lt_of_cell? w _ hx327_10)).trans hx327_10
             replace hx327_11 := (HB.out.cell (World.block_lt_of_cell? w _ hx327_11)).trans hx327_11
             replace p327 := eq_true p327
             replace q327 := eq_true q327
             have p328 : 0 ≤ (x4_1 : Int) := of_decide_eq_true (by first | (with_reducible assumption) | assumption)
             have q328 : x4_1 < (l0.length : Int) := of_decide_eq_true (by first | (with_reducible assumption) | assumption)
             obtain ⟨ad328, e328, hx328_0, hx328_1, hx328_2, hx328_3, hx328_4, hx328_5, hx328_6, hx328_7, hx328_8, hx328_9, hx328_10, hx328_11⟩ := at_T30 HR0.out x4_1 p328 q328
             obtain rfl : ad324 = ad328 := (by injection e328)
             replace hx328_0 := (HB.out.cell (World.block_lt_of_cell? w _ hx328_0)).trans hx328_0
             replace hx328_1 := (HB.out.cell (World.block_lt_of_cell? w _ hx328_1)).trans hx328_1
             replace hx328_2 := (HB.out.cell (World.block_lt_of_cell? w _ hx328_2)).trans hx328_2
             replace hx328_3 := (HB.out.cell (World.block_lt_of_cell? w _ hx328_3)).trans hx328_3
             replace hx328_4 := (HB.out.cell (World.block_lt_of_cell? w _ hx328_4)).trans hx328_4
             replace hx328_5 := (HB.out.cell (World.block_lt_of_cell? w _ hx328_5)).trans hx328_5
             replace hx328_6 := (HB.out.cell (World.block_lt_of_cell? w _ hx328_6)).trans hx328_6
             replace hx328_7 := (HB.out.cell (World.block_lt_of_cell? w _ hx328_7)).trans hx328_7
             replace hx328_8 := (HB.out.cell (World.block_lt_of_cell? w _ hx328_8)).trans hx328_8
             replace hx328_9 := (HB.out.cell (World.block_lt_of_cell? w _ hx328_9)).trans hx328_9
             replace hx328_10 := (HB.out.cell (World.block_lt_of_cell? w _ hx328_10)).trans hx328_10
             replace hx328_11 := (HB.out.cell (World.block_lt_of_cell? w _ hx328_11)).trans hx328_11
             replace p328 := eq_true p328
             replace q328 := eq_true q328
             go_wp2
             repeat (go_quiet (fail); try go_wp2)
             go_roundg k2
             case measure => have := HK1.out; have := HK2.out; omega
             case rel => exact ⟨(x5_2), (wrap64 (x6_2 + 1)), (by first | rfl | (simp; done) | (simp [*]; done)), (by first | rfl | (simp; done) | (simp [*]; done)), H', ⟨by have := HK1.out; have := HK2.out; omega⟩, ⟨by (with_reducible repeat (first | apply Kd.R_alloc | apply Kd.R_drewN | apply Kd.R_drew)); exact HO_3.out⟩, ⟨by repeat (first | (with_reducible first | exact HB.out | apply below_alloc | apply pw_below_drewN | apply below_drew1) | exact HB.out)⟩⟩
           ·rw [if_neg c10] at H
            have c10b0 : (((rd_T30 l0 x6_2).f2.f0) == ((rd_T30 l0 x4_1).f0.f0) && (((rd_T30 l0 x6_2).f2.f1) == ((rd_T30 l0 x4_1).f0.f1))) = false := by simpa using c10
            (try (have c10b1 : decide (((rd_T30 l0 x6_2).f2.f0) = ((rd_T30 l0 x4_1).f0.f0) && (((rd_T30 l0 x6_2).f2.f1) == ((rd_T30 l0 x4_1).f0.f1))) = false := by simpa using c10))
            (try (have c10b2 : (((rd_T30 l0 x6_2).f2.f0) == ((rd_T30 l0 x4_1).f0.f0) && (((rd_T30 l0 x6_2).f2.f1) == ((rd_T30 l0 x4_1).f0.f1))) = false := by simpa using c10))
            (try (have c10b3 : ¬ (((rd_T30 l0 x6_2).f2.f0) = ((rd_T30 l0 x4_1).f0.f0) && (((rd_T30 l0 x6_2).f2.f1) == ((rd_T30 l0 x4_1).f0.f1))) := by simpa using c10))
            clear c10
            have H' := Aside0.mk H
            clear H
            have p324 : 0 ≤ (x6_2 : Int) := of_decide_eq_true (by first | (with_reducible assumption) | assumption)
            have q324 : x6_2 < (l0.length : Int) := of_decide_eq_true (by first | (with_reducible assumption) | assumption)
            obtain ⟨ad324, e324, hx324_0, hx324_1, hx324_2, hx324_3, hx324_4, hx324_5, hx324_6, hx324_7, hx324_8, hx324_9, hx324_10, hx324_11⟩ := at_T30 HR0.out x6_2 p324 q324
            cases e324
            replace hx324_0 := (HB.out.cell (World.block_lt_of_cell? w _ hx324_0)).trans hx324_0
            replace hx324_1 := (HB.out.cell (World.block_lt_of_cell? w _ hx324_1)).trans hx324_1
            replace hx324_2 := (HB.out.cell (World.block_lt_of_cell? w _ hx324_2)).trans hx324_2
            replace hx324_3 := (HB.out.cell (World.block_lt_of_cell? w _ hx324_3)).trans hx324_3
            replace hx324_4 := (HB.out.cell (World.block_lt_of_cell? w _ hx324_4)).trans hx324_4
            replace hx324_5 := (HB.out.cell (World.block_lt_of_cell? w _ hx324_5)).trans hx324_5
            replace hx324_6 := (HB.out.cell (World.block_lt_of_cell? w _ hx324_6)).trans hx324_6
            replace hx324_7 := (HB.out.cell (World.block_lt_of_cell? w _ hx324_7)).trans hx324_7
            replace hx324_8 := (HB.out.cell (World.block_lt_of_cell? w _ hx324_8)).trans hx324_8
            replace hx324_9 := (HB.out.cell (World.block_lt_of_cell? w _ hx324_9)).trans hx324_9
            replace hx324_10 := (HB.out.cell (World.block_lt_of_cell? w _ hx324_10)).trans hx324_10
            replace hx324_11 := (HB.out.cell (World.block_lt_of_cell? w _ hx324_11)).trans hx324_11
            replace p324 := eq_true p324
            replace q324 := eq_true q324
            have p325 : 0 ≤ (x6_2 : Int) := of_decide_eq_true (by first | (with_reducible assumption) | assumption)
            have q325 : x6_2 < (l0.length : Int) := of_decide_eq_true (by first | (with_reducible assumption) | assumption)
            obtain ⟨ad325, e325, hx325_0, hx325_1, hx325_2, hx325_3, hx325_4, hx325_5, hx325_6, hx325_7, hx325_8, hx325_9, hx325_10, hx325_11⟩ := at_T30 HR0.out x6_2 p325 q325
            obtain rfl : ad324 = ad325 := (by injection e325)
            replace hx325_0 := (HB.out.cell (World.block_lt_of_cell? w _ hx325_0)).trans hx325_0
            replace hx325_1 := (HB.out.cell (World.block_lt_of_cell? w _ hx325_1)).trans hx325_1
            replace hx325_2 := (HB.out.cell (World.block_lt_of_cell? w _ hx325_2)).trans hx325_2
            replace hx325_3 := (HB.out.cell (World.block_lt_of_cell? w _ hx325_3)).trans hx325_3
            replace hx325_4 := (HB.out.cell (World.block_lt_of_cell? w _ hx325_4)).trans hx325_4
            replace hx325_5 := (HB.out.cell (World.block_lt_of_cell? w _ hx325_5)).trans hx325_5
            replace hx325_6 := (HB.out.cell (World.block_lt_of_cell? w _ hx325_6)).trans hx325_6
            replace hx325_7 := (HB.out.cell (World.block_lt_of_cell? w _ hx325_7)).trans hx325_7
            replace hx325_8 := (HB.out.cell (World.block_lt_of_cell? w _ hx325_8)).trans hx325_8
            replace hx325_9 := (HB.out.cell (World.block_lt_of_cell? w _ hx325_9)).trans hx325_9
            replace hx325_10 := (HB.out.cell (World.block_lt_of_cell? w _ hx325_10)).trans hx325_10
            replace hx325_11 := (HB.out.cell (World.block_lt_of_cell? w _ hx325_11)).trans hx325_11
            replace p325 := eq_true p325
            replace q325 := eq_true q325
            have p326 : 0 ≤ (x4_1 : Int) := of_decide_eq_true (by first | (with_reducible assumption) | assumption)
            have q326 : x4_1 < (l0.length : Int) := of_decide_eq_true (by first | (with_reducible assumption) | assumption)
            obtain ⟨ad326, e326, hx326_0, hx326_1, hx326_2, hx326_3, hx326_4, hx326_5, hx326_6, hx326_7, hx326_8, hx326_9, hx326_10, hx326_11⟩ := at_T30 HR0.out x4_1 p326 q326
            obtain rfl : ad324 = ad326 := (by injection e326)
            replace hx326_0 := (HB.out.cell (World.block_lt_of_cell? w _ hx326_0)).trans hx326_0
            replace hx326_1 := (HB.out.cell (World.block_lt_of_cell? w _ hx326_1)).trans hx326_1
            replace hx326_2 := (HB.out.cell (World.block_lt_of_cell? w _ hx326_2)).trans hx326_2
            replace hx326_3 := (HB.out.cell (World.block_lt_of_cell? w _ hx326_3)).trans hx326_3
            replace hx326_4 := (HB.out.cell (World.block_lt_of_cell? w _ hx326_4)).trans hx326_4
            replace hx326_5 := (HB.out.cell (World.block_lt_of_cell? w _ hx326_5)).trans hx326_5
            replace hx326_6 := (HB.out.cell (World.block_lt_of_cell? w _ hx326_6)).trans hx326_6
            replace hx326_7 := (HB.out.cell (World.block_lt_of_cell? w _ hx326_7)).trans hx326_7
            replace hx326_8 := (HB.out.cell (World.block_lt_of_cell? w _ hx326_8)).trans hx326_8
            replace hx326_9 := (HB.out.cell (World.block_lt_of_cell? w _ hx326_9)).trans hx326_9
            replace hx326_10 := (HB.out.cell (World.block_lt_of_cell? w _ hx326_10)).trans hx326_10
            replace hx326_11 := (HB.out.cell (World.block_lt_of_cell? w _ hx326_11)).trans hx326_11
            replace p326 := eq_true p326
            replace q326 := eq_true q326
            go_wp2
            repeat (go_quiet (fail); try go_wp2)
            go_roundg k2
            case measure => have := HK1.out; have := HK2.out; omega
            case rel => exact ⟨(x5_2), (wrap64 (x6_2 + 1)), (by first | rfl | (simp; done) | (simp [*]; done)), (by first | rfl | (simp; done) | (simp [*]; done)), H', ⟨by have := HK1.out; have := HK2.out; omega⟩, ⟨by (with_reducible repeat (first | apply Kd.R_alloc | apply Kd.R_drewN | apply Kd.R_drew)); exact HO_3.out⟩, ⟨by repeat (first | (with_reducible first | exact HB.out | apply below_alloc | apply pw_below_drewN | apply below_drew1) | exact HB.out)⟩⟩
          ·rw [if_neg c9] at H
           exact absurd H (by simp)
         ·rw [if_neg c8] at H
          exact absurd H (by simp)
        ·rw [if_neg c7] at H
         have c7b0 : (((rd_T30 l0 x6_2).f1) == 10) = false := beq_eq_false_iff_ne.mpr c7
         have c7b1 : (((rd_T30 l0 x6_2).f1) != 10) = true := bne_iff_ne.mpr c7
         have H' := Aside0.mk H
         clear H
         have p324 : 0 ≤ (x6_2 : Int) := of_decide_eq_true (by first | (with_reducible assumption) | assumption)
         have q324 : x6_2 < (l0.length : Int) := of_decide_eq_true (by first | (with_reducible assumption) | assumption)
         obtain ⟨ad324, e324, hx324_0, hx324_1, hx324_2, hx324_3, hx324_4, hx324_5, hx324_6, hx324_7, hx324_8, hx324_9, hx324_10, hx324_11⟩ := at_T30 HR0.out x6_2 p324 q324
         cases e324
         replace hx324_0 := (HB.out.cell (World.block_lt_of_cell? w _ hx324_0)).trans hx324_0
         replace hx324_1 := (HB.out.cell (World.block_lt_of_cell? w _ hx324_1)).trans hx324_1
         replace hx324_2 := (HB.out.cell (World.block_lt_of_cell? w _ hx324_2)).trans hx324_2
         replace hx324_3 := (HB.out.cell (World.block_lt_of_cell? w _ hx324_3)).trans hx324_3
         replace hx324_4 := (HB.out.cell (World.block_lt_of_cell? w _ hx324_4)).trans hx324_4
         replace hx324_5 := (HB.out.cell (World.block_lt_of_cell? w _ hx324_5)).trans hx324_5
         replace hx324_6 := (HB.out.cell (World.block_lt_of_cell? w _ hx324_6)).trans hx324_6
         replace hx324_7 := (HB.out.cell (World.block_lt_of_cell? w _ hx324_7)).trans hx324_7
         replace hx324_8 := (HB.out.cell (World.block_lt_of_cell? w _ hx324_8)).trans hx324_8
         replace hx324_9 := (HB.out.cell (World.block_lt_of_cell? w _ hx324_9)).trans hx324_9
         replace hx324_10 := (HB.out.cell (World.block_lt_of_cell? w _ hx324_10)).trans hx324_10
         replace hx324_11 := (HB.out.cell (World.block_lt_of_cell? w _ hx324_11)).trans hx324_11
         replace p324 := eq_true p324
         replace q324 := eq_true q324
         go_wp2
         repeat (go_quiet (fail); try go_wp2)
         go_roundg k2
         case measure => have := HK1.out; have := HK2.out; omega
         case rel => exact ⟨(x5_2), (wrap64 (x6_2 + 1)), (by first | rfl | (simp; done) | (simp [*]; done)), (by first | rfl | (simp; done) | (simp [*]; done)), H', ⟨by have := HK1.out; have := HK2.out; omega⟩, ⟨by (with_reducible repeat (first | apply Kd.R_alloc | apply Kd.R_drewN | apply Kd.R_drew)); exact HO_3.out⟩, ⟨by repeat (first | (with_reducible first | exact HB.out | apply below_alloc | apply pw_below_drewN | apply below_drew1) | exact HB.out)⟩⟩
       ·rw [if_neg c6] at H
        exact absurd H (by simp)
      ·rw [if_neg c5] at H
       have c5b0 : decide (x6_2 < (l0.length : Int)) = false := decide_eq_false c5
       clear c5
       by_cases c13 : x3_1.length < 140737488355328
       ·rw [if_pos c13] at H
        have LMc13 := Aside0.mk c13
        clear c13
        obtain ⟨y331, hy331⟩ : ∃ y_ : List Bool, y_ = (x3_1 ++ [x5_2]) := ⟨_, rfl⟩
        replace H : (spec_activeOps.l0 k2 l0 y331 (wrap64 (x4_1 + 1))) = some r := by first | (rw [hy331]; with_reducible exact H) | (have H2_ := (Option.bind_some _ _).symm.trans H; rw [hy331]; with_reducible exact H2_) | (have H2_ := (Option.bind_some _ _).symm.trans H; with_reducible exact H2_) | with_reducible exact H | (rw [hy331]; exact H) | exact H
        have Ny331 := Aside0.mk hy331
        clear hy331
        have H' := Aside0.mk H
        clear H
        go_wp2_with (first | ((with_reducible refine gate_builtin (b := .append) (xs := #[.tmp 69, .tmp 71]) rfl ?_); at_builtin; refine Kd.R_append Kd.bool (w0 := w) w.heap.size rfl (.tmp 69) (.tmp 71) 45 4 (.bool false) 1 rfl Try.underlying45 info4 rfl (by decide) (by omega) u3 x3_1 x5_2 [.bool x5_2] (fun _ => True) (fun _ => False) rfl rfl ?aP (fun _ hk => hk.elim) ?aF ?aO ?aB ?aS ?aL ?_; (case aP => exact rfl); (case aB => exact (by repeat (first | (with_reducible first | exact HB.out | apply below_alloc | apply pw_below_drewN | apply below_drew1) | exact HB.out))); (case aF => exact (fun _ _ => trivial)); (case aO => exact (by (with_reducible repeat (first | apply Kd.R_alloc | apply Kd.R_drewN | apply Kd.R_drew)); exact HO_3.out)); (case aS => exact (below_size (by repeat (first | (with_reducible first | exact HB.out | apply below_alloc | apply pw_below_drewN | apply below_drew1) | exact HB.out)))); (case aL => have := LMc13.out; omega); intro v332 w14 ho hb hg hat; rw [← Ny331.out] at ho; have n0_ := Aside0.mk (hb); have n1_ := Aside0.mk (ho); clear HB; clear HO_3; have HB := n0_; have HO333 := n1_; clear n0_ n1_; clear ho hb hg hat))
        repeat (go_quiet (first | ((with_reducible refine gate_builtin (b := .append) (xs := #[.tmp 69, .tmp 71]) rfl ?_); at_builtin; refine Kd.R_append Kd.bool (w0 := w) w.heap.size rfl (.tmp 69) (.tmp 71) 45 4 (.bool false) 1 rfl Try.underlying45 info4 rfl (by decide) (by omega) u3 x3_1 x5_2 [.bool x5_2] (fun _ => True) (fun _ => False) rfl rfl ?aP (fun _ hk => hk.elim) ?aF ?aO ?aB ?aS ?aL ?_; (case aP => exact rfl); (case aB => exact (by repeat (first | (with_reducible first | exact HB.out | apply below_alloc | apply pw_below_drewN | apply below_drew1) | exact HB.out))); (case aF => exact (fun _ _ => trivial)); (case aO => exact (by (with_reducible repeat (first | apply Kd.R_alloc | apply Kd.R_drewN | apply Kd.R_drew)); exact HO_3.out)); (case aS => exact (below_size (by repeat (first | (with_reducible first | exact HB.out | apply below_alloc | apply pw_below_drewN | apply below_drew1) | exact HB.out)))); (case aL => have := LMc13.out; omega); intro v332 w14 ho hb hg hat; rw [← Ny331.out] at ho; have n0_ := Aside0.mk (hb); have n1_ := Aside0.mk (ho); clear HB; clear HO_3; have HB := n0_; have HO333 := n1_; clear n0_ n1_; clear ho hb hg hat)); try go_wp2_with (first | ((with_reducible refine gate_builtin (b := .append) (xs := #[.tmp 69, .tmp 71]) rfl ?_); at_builtin; refine Kd.R_append Kd.bool (w0 := w) w.heap.size rfl (.tmp 69) (.tmp 71) 45 4 (.bool false) 1 rfl Try.underlying45 info4 rfl (by decide) (by omega) u3 x3_1 x5_2 [.bool x5_2] (fun _ => True) (fun _ => False) rfl rfl ?aP (fun _ hk => hk.elim) ?aF ?aO ?aB ?aS ?aL ?_; (case aP => exact rfl); (case aB => exact (by repeat (first | (with_reducible first | exact HB.out | apply below_alloc | apply pw_below_drewN | apply below_drew1) | exact HB.out))); (case aF => exact (fun _ _ => trivial)); (case aO => exact (by (with_reducible repeat (first | apply Kd.R_alloc | apply Kd.R_drewN | apply Kd.R_drew)); exact HO_3.out)); (case aS => exact (below_size (by repeat (first | (with_reducible first | exact HB.out | apply below_alloc | apply pw_below_drewN | apply below_drew1) | exact HB.out)))); (case aL => have := LMc13.out; omega); intro v332 w14 ho hb hg hat; rw [← Ny331.out] at ho; have n0_ := Aside0.mk (hb); have n1_ := Aside0.mk (ho); clear HB; clear HO_3; have HB := n0_; have HO333 := n1_; clear n0_ n1_; clear ho hb hg hat)))
        go_roundg k2
        case measure => have := HK1.out; have := HK2.out; omega
        case rel => exact ⟨(y331), (wrap64 (x4_1 + 1)), (by first | rfl | (simp; done) | (simp [*]; done)), H', ⟨by have := HK1.out; have := HK2.out; omega⟩, ⟨by (with_reducible repeat (first | apply Kd.R_alloc | apply Kd.R_drewN | apply Kd.R_drew)); exact HO333.out⟩, ⟨by repeat (first | (with_reducible first | exact HB.out | apply below_alloc | apply pw_below_drewN | apply below_drew1) | exact HB.out)⟩⟩
       ·rw [if_neg c13] at H
        exact absurd H (by simp)
   ·rw [if_neg c4] at H
    have c4b0 : decide (x4_1 < (l0.length : Int)) = false := decide_eq_false c4
    clear c4
    obtain rfl := Option.some.inj H
    go_wp2
    repeat (go_quiet (fail); try go_wp2)
    go_ret
    exact ⟨_, by first | rfl | (simp [errW_none, errW_some] <;> rfl) | (simp [*, errW_none, errW_some] <;> rfl), by (with_reducible repeat (first | apply Kd.R_alloc | apply Kd.R_drewN | apply Kd.R_drew)); exact HO_3.out, by repeat (first | (with_reducible first | exact HB.out | apply below_alloc | apply pw_below_drewN | apply below_drew1) | exact HB.out)⟩

end Go.Proofs.Ytomigiindmojkaa.QK

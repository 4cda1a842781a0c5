/- Proved here: a call of each of these functions of the program does what the Lean function of the same name says. Conditions: the premises of each theorem (what the arguments read as). Written by a program of this session over the print of the kit, repaired, and joined with texts by hand. -/
import Derived.Test.YtomigiindmojkaaQLx0
namespace Go.Proofs.Ytomigiindmojkaa.QL
open Go.Proofs.Ytomigiindmojkaa.Base Go.RowKit Go.Proofs.YtomigiindmojkaaW.PrintWords Go.Proofs.YtomigiindmojkaaW.PrintLast Go.Proofs.YtomigiindmojkaaW.PrintMore
attribute [local go_sem] max2_int min2_int max_two min_two max_three min_three max_four min_four   -- for this text's walks alone
set_option linter.unusedVariables false
set_option linter.unusedSimpArgs false

/-! ### spec_logVector: function 50 -/
def spec_logVector.l0 : Nat → List (S30) → List Int → Int → Option (List Int)
  | 0, _, _, _ => none
  | k + 1, x0, x3, x4 => if x4 < (x0.length : Int) then (if 0 ≤ x4 then (if 0 ≤ ((rd_T30 x0 x4).f0.f1) then (if ((rd_T30 x0 x4).f0.f1) < (x3.length : Int) then (if ((rd_T30 x0 x4).f0.f0) > (rd x3 ((rd_T30 x0 x4).f0.f1)) then (spec_logVector.l0 k x0 (x3.set (((rd_T30 x0 x4).f0.f1) : Int).toNat ((rd_T30 x0 x4).f0.f0)) (wrap64 (x4 + 1))) else (spec_logVector.l0 k x0 x3 (wrap64 (x4 + 1)))) else (none)) else (none)) else (none)) else (some x3)
def spec_logVector.f (k : Nat) (l0 : List (S30)) : Option (List Int) := if 3 ≤ 35184372088832 then (spec_logVector.l0 k l0 (List.replicate 3 0) 0) else (none)
theorem spec_logVector.mono_l : ∀ k, (∀ y0 y1 y2, LeO (spec_logVector.l0 k y0 y1 y2) (spec_logVector.l0 (k + 1) y0 y1 y2))
  | 0 => fun _ _ _ r h => by simp [spec_logVector.l0] at h
  | k + 1 => by
    have ih0 := spec_logVector.mono_l k
    · intro y0 y1 y2
      unfold spec_logVector.l0
      repeat' first
      | (with_reducible exact ih0 _ _ _)
      | (with_reducible exact LeO.refl _)
      | (with_reducible exact LeO.none _)
      | (with_reducible refine LeO.ite ?_ ?_)
      | (with_reducible refine LeO.bind ?_ (fun _ => ?_))
      | exact ih0 _ _ _
      | exact LeO.none _
      | refine LeO.ite ?_ ?_
      | refine LeO.bind ?_ (fun _ => ?_)
theorem spec_logVector.mono : ∀ a0 k, LeO (spec_logVector.f k a0) (spec_logVector.f (k + 1) a0) := by
  intro a0 k
  have ih0 := spec_logVector.mono_l k
  unfold spec_logVector.f
  repeat' first
      | (with_reducible exact ih0 _ _ _)
      | (with_reducible exact LeO.refl _)
      | (with_reducible exact LeO.none _)
      | (with_reducible refine LeO.ite ?_ ?_)
      | (with_reducible refine LeO.bind ?_ (fun _ => ?_))
      | exact ih0 _ _ _
      | exact LeO.none _
      | refine LeO.ite ?_ ?_
      | refine LeO.bind ?_ (fun _ => ?_)
def spec_logVector.T5 : Bool × List (List Nat × List Nat) := (true, [([], []), ([], []), ([0, 1], [0, 1]), ([2], [2]), ([3], [3]), ([4], [4]), ([], []), ([], []), ([], []), ([7, 8], [7, 8]), ([9], [9]), ([10], [10]), ([11], [11]), ([6, 12], [6, 12]), ([13], [13]), ([5, 14], [5, 14])])
def spec_logVector.B5 : List Nat := [0, 0, 3, 7, 15, 31, 0, 0, 0, 384, 896, 1920, 3968, 8128, 16320, 32767]
theorem spec_logVector.tab5 : rtab .any (opsOf Try.f50 5) = spec_logVector.T5 := by kernel_rfl
theorem spec_logVector.bits5 : waitsOk spec_logVector.T5.2 spec_logVector.B5 = true := by kernel_rfl
def spec_logVector.T6 : Bool × List (List Nat × List Nat) := (true, [([], []), ([], []), ([], []), ([1, 2], [1, 2]), ([3], [3]), ([4], [4]), ([5], [5]), ([], []), ([], []), ([7, 8], [7, 8]), ([9], [9]), ([10], [10]), ([11], [11]), ([0, 6, 0, 1, 2, 3, 4, 5, 6, 7, 8, 9, 10, 11, 12], [0, 6]), ([13, 12, 0, 1, 2, 3, 4, 5, 6, 7, 8, 9, 10, 11, 12], [12, 13])])
def spec_logVector.B6 : List Nat := [0, 0, 0, 6, 14, 30, 62, 0, 0, 384, 896, 1920, 3968, 8191, 16383]
theorem spec_logVector.tab6 : rtab .any (opsOf Try.f50 6) = spec_logVector.T6 := by kernel_rfl
theorem spec_logVector.bits6 : waitsOk spec_logVector.T6.2 spec_logVector.B6 = true := by kernel_rfl
set_option maxHeartbeats 8000000 in
set_option maxRecDepth 100000 in
theorem spec_logVector.calls (k : Nat) (A0 : Option Addr) (c0 : Nat) (l0 : List (S30)) (r : List Int) (w : World) (hr0 : Kd.C k30 w A0 l0.length l0) (hc0 : l0.length ≤ c0) (h : spec_logVector.f k l0 = some r) :
    Calls Try.prog 50 #[.slice A0 l0.length c0] w fun e w' => ∃ v0_ : Value, e = .returned (v0_) ∧ Kd.R (Kd.int .i64) 3 w' w.heap.size (fun _ => True) v0_ r ∧ Below w.heap.size w w' := by
  have HR0 := Aside0.mk hr0
  have HC0 := Aside0.mk hc0
  clear hr0 hc0
  have HB := Aside0.mk (Below.refl w.heap.size w)
  have H : (if 3 ≤ 35184372088832 then (spec_logVector.l0 k l0 (List.replicate 3 0) 0) else (none)) = some r := h
  clear h
  by_cases c2 : 3 ≤ 35184372088832
  · rw [if_pos c2] at H
    have c2b0 := eq_true c2
    have c2b1 : decide (3 ≤ 35184372088832) = true := decide_eq_true c2
    clear c2
    obtain ⟨y209, hy209⟩ : ∃ y_ : List Int, y_ = (List.replicate 3 0) := ⟨_, rfl⟩
    replace H : (spec_logVector.l0 k l0 y209 0) = some r := by first | (rw [hy209]; with_reducible exact H) | (have H2_ := (Option.bind_some _ _).symm.trans H; rw [hy209]; with_reducible exact H2_) | (have H2_ := (Option.bind_some _ _).symm.trans H; with_reducible exact H2_) | with_reducible exact H | (rw [hy209]; exact H) | exact H
    have Ny209 := Aside0.mk hy209
    clear hy209
    have H' := Aside0.mk H
    clear H
    go_enter Try.func50, Try.ntmps50
    go_wp2_with (first | ((with_reducible refine gate_dst (N := 5) rfl ?_); refine Kd.R_make (Kd.int .i64) _ 3 rfl (N := 5) rfl 40 _ _ rfl 3 rfl rfl Try.underlying40 (.int .i64 0) 8 info3 rfl (by decide) (by omega) 0 (ok := fun _ => True) (okp := fun _ => True) rfl (fun _ hk => hk) trivial (by omega) (by omega) (Below.refl _ _) (Nat.le_refl _) ?_; intro v210 w3 ho4 hb hg_ hnew_; clear hg_ hnew_; (first | rw [← Ny209.out] at ho4 | (simp only [Int.reduceToNat] at ho4; rw [← Ny209.out] at ho4)); have n0_ := Aside0.mk (Kd.R_lower ho4 (below_size (by repeat (first | (with_reducible first | exact HB.out | apply below_alloc | apply pw_below_drewN | apply below_drew1) | exact HB.out)))); have n1_ := Aside0.mk (below_step (by repeat (first | (with_reducible first | exact HB.out | apply below_alloc | apply pw_below_drewN | apply below_drew1) | exact HB.out)) hb); clear HB; have HO211 := n0_; have HB := n1_; clear n0_ n1_; clear hb ho4))
    go_loopg [4] k (fun kq v4 w' => ∃ (x3_1 : List Int) (x4_1 : Int), v4 = .int .i64 x4_1 ∧ Aside0 (spec_logVector.l0 kq l0 x3_1 x4_1 = some r) ∧ Aside0 (kq ≤ k) ∧ Aside0 (Kd.R (Kd.int .i64) 3 w' w.heap.size (fun _ => True) v210 x3_1) ∧ Aside0 (Below w.heap.size w w'))
    case atStart => exact ⟨(y209), (0), (by first | rfl | (simp; done) | (simp [*]; done)), H', ⟨Nat.le_refl _⟩, ⟨by (with_reducible repeat (first | apply Kd.R_alloc | apply Kd.R_drewN | apply Kd.R_drew)); exact HO211.out⟩, ⟨by repeat (first | (with_reducible first | exact HB.out | apply below_alloc | apply pw_below_drewN | apply below_drew1) | exact HB.out)⟩⟩
    case round =>
      clear H'
      try clear c2
      try clear c2b0
      try clear c2b1
      try clear p2
      obtain ⟨x3_1, x4_1, rfl, HA, HK1, HO_3, HB⟩ := hrel
      cases gk with
      | zero => exact absurd HA.out (by simp [spec_logVector.l0])
      | succ k1 =>
        have H := HA.out
        clear HA
        simp only [spec_logVector.l0] at H
        by_cases c5 : x4_1 < (l0.length : Int)
        · rw [if_pos c5] at H
          have c5b0 : decide (x4_1 < (l0.length : Int)) = true := decide_eq_true c5
          clear c5
          by_cases c6 : 0 ≤ x4_1
          · rw [if_pos c6] at H
            have c6b0 : decide (0 ≤ x4_1) = true := decide_eq_true c6
            clear c6
            by_cases c7 : 0 ≤ ((rd_T30 l0 x4_1).f0.f1)
            · rw [if_pos c7] at H
              have c7b0 : decide (0 ≤ ((rd_T30 l0 x4_1).f0.f1)) = true := decide_eq_true c7
              clear c7
              by_cases c8 : ((rd_T30 l0 x4_1).f0.f1) < (x3_1.length : Int)
              · rw [if_pos c8] at H
                have c8b0 : decide (((rd_T30 l0 x4_1).f0.f1) < (x3_1.length : Int)) = true := decide_eq_true c8
                clear c8
                by_cases c9 : ((rd_T30 l0 x4_1).f0.f0) > (rd x3_1 ((rd_T30 l0 x4_1).f0.f1))
                · rw [if_pos c9] at H
                  have c9b0 : decide ((rd x3_1 ((rd_T30 l0 x4_1).f0.f1)) < ((rd_T30 l0 x4_1).f0.f0)) = true := decide_eq_true c9
                  clear c9
                  obtain ⟨y217, hy217⟩ : ∃ y_ : List Int, y_ = (x3_1.set (((rd_T30 l0 x4_1).f0.f1) : Int).toNat ((rd_T30 l0 x4_1).f0.f0)) := ⟨_, rfl⟩
                  replace H : (spec_logVector.l0 k1 l0 y217 (wrap64 (x4_1 + 1))) = some r := by first | (rw [hy217]; with_reducible exact H) | (have H2_ := (Option.bind_some _ _).symm.trans H; rw [hy217]; with_reducible exact H2_) | (have H2_ := (Option.bind_some _ _).symm.trans H; with_reducible exact H2_) | with_reducible exact H | (rw [hy217]; exact H) | exact H
                  have Ny217 := Aside0.mk hy217
                  clear hy217
                  have H' := Aside0.mk H
                  clear H
                  try go_wp2
                  have n0_ := Aside0.mk (Kd.R_drew HO_3.out)
                  have n1_ := Aside0.mk (below_drew1 HB.out)
                  clear HO_3
                  clear HB
                  have HO_3 := n0_
                  have HB := n1_
                  clear n0_ n1_
                  have p212 : 0 ≤ (x4_1 : Int) := of_decide_eq_true (by first | (with_reducible assumption) | assumption)
                  have q212 : x4_1 < (l0.length : Int) := of_decide_eq_true (by first | (with_reducible assumption) | assumption)
                  obtain ⟨ad212, e212, hx212_0, hx212_1, hx212_2, hx212_3, hx212_4, hx212_5, hx212_6, hx212_7, hx212_8, hx212_9, hx212_10, hx212_11⟩ := at_T30 HR0.out x4_1 p212 q212
                  have hw212_11 := hx212_11
                  have hw212_10 := hx212_10
                  have hw212_9 := hx212_9
                  have hw212_8 := hx212_8
                  have hw212_7 := hx212_7
                  have hw212_6 := hx212_6
                  have hw212_5 := hx212_5
                  have hw212_4 := hx212_4
                  have hw212_3 := hx212_3
                  have hw212_2 := hx212_2
                  have hw212_1 := hx212_1
                  have hw212_0 := hx212_0
                  cases e212
                  replace hx212_0 := (HB.out.cell (World.block_lt_of_cell? w _ hx212_0)).trans hx212_0
                  replace hx212_1 := (HB.out.cell (World.block_lt_of_cell? w _ hx212_1)).trans hx212_1
                  replace hx212_2 := (HB.out.cell (World.block_lt_of_cell? w _ hx212_2)).trans hx212_2
                  replace hx212_3 := (HB.out.cell (World.block_lt_of_cell? w _ hx212_3)).trans hx212_3
                  replace hx212_4 := (HB.out.cell (World.block_lt_of_cell? w _ hx212_4)).trans hx212_4
                  replace hx212_5 := (HB.out.cell (World.block_lt_of_cell? w _ hx212_5)).trans hx212_5
                  replace hx212_6 := (HB.out.cell (World.block_lt_of_cell? w _ hx212_6)).trans hx212_6
                  replace hx212_7 := (HB.out.cell (World.block_lt_of_cell? w _ hx212_7)).trans hx212_7
                  replace hx212_8 := (HB.out.cell (World.block_lt_of_cell? w _ hx212_8)).trans hx212_8
                  replace hx212_9 := (HB.out.cell (World.block_lt_of_cell? w _ hx212_9)).trans hx212_9
                  replace hx212_10 := (HB.out.cell (World.block_lt_of_cell? w _ hx212_10)).trans hx212_10
                  replace hx212_11 := (HB.out.cell (World.block_lt_of_cell? w _ hx212_11)).trans hx212_11
                  replace p212 := eq_true p212
                  replace q212 := eq_true q212
                  have p213 : 0 ≤ (x4_1 : Int) := of_decide_eq_true (by first | (with_reducible assumption) | assumption)
                  have q213 : x4_1 < (l0.length : Int) := of_decide_eq_true (by first | (with_reducible assumption) | assumption)
                  obtain ⟨ad213, e213, hx213_0, hx213_1, hx213_2, hx213_3, hx213_4, hx213_5, hx213_6, hx213_7, hx213_8, hx213_9, hx213_10, hx213_11⟩ := at_T30 HR0.out x4_1 p213 q213
                  have hw213_11 := hx213_11
                  have hw213_10 := hx213_10
                  have hw213_9 := hx213_9
                  have hw213_8 := hx213_8
                  have hw213_7 := hx213_7
                  have hw213_6 := hx213_6
                  have hw213_5 := hx213_5
                  have hw213_4 := hx213_4
                  have hw213_3 := hx213_3
                  have hw213_2 := hx213_2
                  have hw213_1 := hx213_1
                  have hw213_0 := hx213_0
                  obtain rfl : ad212 = ad213 := (by injection e213)
                  replace hx213_0 := (HB.out.cell (World.block_lt_of_cell? w _ hx213_0)).trans hx213_0
                  replace hx213_1 := (HB.out.cell (World.block_lt_of_cell? w _ hx213_1)).trans hx213_1
                  replace hx213_2 := (HB.out.cell (World.block_lt_of_cell? w _ hx213_2)).trans hx213_2
                  replace hx213_3 := (HB.out.cell (World.block_lt_of_cell? w _ hx213_3)).trans hx213_3
                  replace hx213_4 := (HB.out.cell (World.block_lt_of_cell? w _ hx213_4)).trans hx213_4
                  replace hx213_5 := (HB.out.cell (World.block_lt_of_cell? w _ hx213_5)).trans hx213_5
                  replace hx213_6 := (HB.out.cell (World.block_lt_of_cell? w _ hx213_6)).trans hx213_6
                  replace hx213_7 := (HB.out.cell (World.block_lt_of_cell? w _ hx213_7)).trans hx213_7
                  replace hx213_8 := (HB.out.cell (World.block_lt_of_cell? w _ hx213_8)).trans hx213_8
                  replace hx213_9 := (HB.out.cell (World.block_lt_of_cell? w _ hx213_9)).trans hx213_9
                  replace hx213_10 := (HB.out.cell (World.block_lt_of_cell? w _ hx213_10)).trans hx213_10
                  replace hx213_11 := (HB.out.cell (World.block_lt_of_cell? w _ hx213_11)).trans hx213_11
                  replace p213 := eq_true p213
                  replace q213 := eq_true q213
                  obtain ⟨Ao12, co12, eo12⟩ := Kd.R_slice HO_3.out
                  (first | subst eo12 | (injection eo12 with f1_ f2_ f3_; have f4_ := f1_.symm; have f5_ := f3_.symm; clear f1_ f2_ f3_; subst f4_; subst f5_))
                  have p214 : 0 ≤ (((rd_T30 l0 x4_1).f0.f1) : Int) := of_decide_eq_true (by first | (with_reducible assumption) | assumption)
                  have q214 : ((rd_T30 l0 x4_1).f0.f1) < (x3_1.length : Int) := of_decide_eq_true (by first | (with_reducible assumption) | assumption)
                  obtain ⟨ad214, e214, hx214_0⟩ := Kd.at_int (Kd.R_reads' HO_3.out).2.2 ((rd_T30 l0 x4_1).f0.f1) p214 q214
                  cases e214
                  replace p214 := eq_true p214
                  replace q214 := eq_true q214
                  refine start_ (n := 16) (S := fun w' => w'.cell? (ad212.add ((x4_1).toNat * 12)) = some (.int .i64 ((rd_T30 l0 x4_1).f0.f0)) ∧ w'.cell? ⟨(ad212.add ((x4_1).toNat * 12)).block, (ad212.add ((x4_1).toNat * 12)).off + 1, none⟩ = some (.int .i64 ((rd_T30 l0 x4_1).f0.f1)) ∧ w'.cell? ⟨(ad212.add ((x4_1).toNat * 12)).block, (ad212.add ((x4_1).toNat * 12)).off + 2, none⟩ = some (.int .i64 ((rd_T30 l0 x4_1).f1)) ∧ w'.cell? ⟨(ad212.add ((x4_1).toNat * 12)).block, (ad212.add ((x4_1).toNat * 12)).off + 3, none⟩ = some (.int .i64 ((rd_T30 l0 x4_1).f2.f0)) ∧ w'.cell? ⟨(ad212.add ((x4_1).toNat * 12)).block, (ad212.add ((x4_1).toNat * 12)).off + 4, none⟩ = some (.int .i64 ((rd_T30 l0 x4_1).f2.f1)) ∧ w'.cell? ⟨(ad212.add ((x4_1).toNat * 12)).block, (ad212.add ((x4_1).toNat * 12)).off + 5, none⟩ = some (.int .i64 ((rd_T30 l0 x4_1).f3.f0)) ∧ w'.cell? ⟨(ad212.add ((x4_1).toNat * 12)).block, (ad212.add ((x4_1).toNat * 12)).off + 6, none⟩ = some (.int .i64 ((rd_T30 l0 x4_1).f3.f1)) ∧ w'.cell? ⟨(ad212.add ((x4_1).toNat * 12)).block, (ad212.add ((x4_1).toNat * 12)).off + 7, none⟩ = some (.int .i64 ((rd_T30 l0 x4_1).f4.f0)) ∧ w'.cell? ⟨(ad212.add ((x4_1).toNat * 12)).block, (ad212.add ((x4_1).toNat * 12)).off + 8, none⟩ = some (.int .i64 ((rd_T30 l0 x4_1).f4.f1)) ∧ w'.cell? ⟨(ad212.add ((x4_1).toNat * 12)).block, (ad212.add ((x4_1).toNat * 12)).off + 9, none⟩ = some (.int .i64 ((rd_T30 l0 x4_1).f5)) ∧ w'.cell? ⟨(ad212.add ((x4_1).toNat * 12)).block, (ad212.add ((x4_1).toNat * 12)).off + 10, none⟩ = some (.bool ((rd_T30 l0 x4_1).f6)) ∧ w'.cell? ⟨(ad212.add ((x4_1).toNat * 12)).block, (ad212.add ((x4_1).toNat * 12)).off + 11, none⟩ = some (.string ((rd_T30 l0 x4_1).f7)) ∧ w'.cell? (ad212.add ((x4_1).toNat * 12)) = some (.int .i64 ((rd_T30 l0 x4_1).f0.f0)) ∧ w'.cell? ⟨(ad212.add ((x4_1).toNat * 12)).block, (ad212.add ((x4_1).toNat * 12)).off + 1, none⟩ = some (.int .i64 ((rd_T30 l0 x4_1).f0.f1)) ∧ w'.cell? ⟨(ad212.add ((x4_1).toNat * 12)).block, (ad212.add ((x4_1).toNat * 12)).off + 2, none⟩ = some (.int .i64 ((rd_T30 l0 x4_1).f1)) ∧ w'.cell? ⟨(ad212.add ((x4_1).toNat * 12)).block, (ad212.add ((x4_1).toNat * 12)).off + 3, none⟩ = some (.int .i64 ((rd_T30 l0 x4_1).f2.f0)) ∧ w'.cell? ⟨(ad212.add ((x4_1).toNat * 12)).block, (ad212.add ((x4_1).toNat * 12)).off + 4, none⟩ = some (.int .i64 ((rd_T30 l0 x4_1).f2.f1)) ∧ w'.cell? ⟨(ad212.add ((x4_1).toNat * 12)).block, (ad212.add ((x4_1).toNat * 12)).off + 5, none⟩ = some (.int .i64 ((rd_T30 l0 x4_1).f3.f0)) ∧ w'.cell? ⟨(ad212.add ((x4_1).toNat * 12)).block, (ad212.add ((x4_1).toNat * 12)).off + 6, none⟩ = some (.int .i64 ((rd_T30 l0 x4_1).f3.f1)) ∧ w'.cell? ⟨(ad212.add ((x4_1).toNat * 12)).block, (ad212.add ((x4_1).toNat * 12)).off + 7, none⟩ = some (.int .i64 ((rd_T30 l0 x4_1).f4.f0)) ∧ w'.cell? ⟨(ad212.add ((x4_1).toNat * 12)).block, (ad212.add ((x4_1).toNat * 12)).off + 8, none⟩ = some (.int .i64 ((rd_T30 l0 x4_1).f4.f1)) ∧ w'.cell? ⟨(ad212.add ((x4_1).toNat * 12)).block, (ad212.add ((x4_1).toNat * 12)).off + 9, none⟩ = some (.int .i64 ((rd_T30 l0 x4_1).f5)) ∧ w'.cell? ⟨(ad212.add ((x4_1).toNat * 12)).block, (ad212.add ((x4_1).toNat * 12)).off + 10, none⟩ = some (.bool ((rd_T30 l0 x4_1).f6)) ∧ w'.cell? ⟨(ad212.add ((x4_1).toNat * 12)).block, (ad212.add ((x4_1).toNat * 12)).off + 11, none⟩ = some (.string ((rd_T30 l0 x4_1).f7)) ∧ w'.cell? (ad214.add (((rd_T30 l0 x4_1).f0.f1)).toNat) = some (.int .i64 (rd x3_1 ((rd_T30 l0 x4_1).f0.f1)))) (ds := []) #[false, false, false, false, false, false, false, false, false, false, false, false, false, false, false, false] (by kernel_rfl) rfl rfl ⟨((HB.out.cell (World.block_lt_of_cell? w _ hw212_0)).trans hw212_0), ((HB.out.cell (World.block_lt_of_cell? w _ hw212_1)).trans hw212_1), ((HB.out.cell (World.block_lt_of_cell? w _ hw212_2)).trans hw212_2), ((HB.out.cell (World.block_lt_of_cell? w _ hw212_3)).trans hw212_3), ((HB.out.cell (World.block_lt_of_cell? w _ hw212_4)).trans hw212_4), ((HB.out.cell (World.block_lt_of_cell? w _ hw212_5)).trans hw212_5), ((HB.out.cell (World.block_lt_of_cell? w _ hw212_6)).trans hw212_6), ((HB.out.cell (World.block_lt_of_cell? w _ hw212_7)).trans hw212_7), ((HB.out.cell (World.block_lt_of_cell? w _ hw212_8)).trans hw212_8), ((HB.out.cell (World.block_lt_of_cell? w _ hw212_9)).trans hw212_9), ((HB.out.cell (World.block_lt_of_cell? w _ hw212_10)).trans hw212_10), ((HB.out.cell (World.block_lt_of_cell? w _ hw212_11)).trans hw212_11), ((HB.out.cell (World.block_lt_of_cell? w _ hw213_0)).trans hw213_0), ((HB.out.cell (World.block_lt_of_cell? w _ hw213_1)).trans hw213_1), ((HB.out.cell (World.block_lt_of_cell? w _ hw213_2)).trans hw213_2), ((HB.out.cell (World.block_lt_of_cell? w _ hw213_3)).trans hw213_3), ((HB.out.cell (World.block_lt_of_cell? w _ hw213_4)).trans hw213_4), ((HB.out.cell (World.block_lt_of_cell? w _ hw213_5)).trans hw213_5), ((HB.out.cell (World.block_lt_of_cell? w _ hw213_6)).trans hw213_6), ((HB.out.cell (World.block_lt_of_cell? w _ hw213_7)).trans hw213_7), ((HB.out.cell (World.block_lt_of_cell? w _ hw213_8)).trans hw213_8), ((HB.out.cell (World.block_lt_of_cell? w _ hw213_9)).trans hw213_9), ((HB.out.cell (World.block_lt_of_cell? w _ hw213_10)).trans hw213_10), ((HB.out.cell (World.block_lt_of_cell? w _ hw213_11)).trans hw213_11), hx214_0⟩ (fun hHeld => ?_); refine with_tabW spec_logVector.tab5 spec_logVector.bits5 (fun HT_ HW_ => ?_)
                  generalize wr.drew = w11 at HO_3 HB hx212_0 hx212_1 hx212_10 hx212_11 hx212_2 hx212_3 hx212_4 hx212_5 hx212_6 hx212_7 hx212_8 hx212_9 hx213_0 hx213_1 hx213_10 hx213_11 hx213_2 hx213_3 hx213_4 hx213_5 hx213_6 hx213_7 hx213_8 hx213_9 hx214_0 hHeld ⊢
                  refine pure_ (i := 0) (N := some 12) (v := ?_) (a' := ?_) #[true, false, false, false, false, false, false, false, false, false, false, false, false, false, false, false] rfl rfl (any_of HT_.out (by kernel_rfl)) (fun _ _ _ h => h) (Or.inl ⟨by rfl, ?_⟩) ?_ ?_
                  rotate_left
                  · intro w'
                    go_simp
                    with_reducible rfl
                  rotate_left
                  · simp only [Act.put, List.setIfInBounds_toArray, List.set_cons_zero, List.set_cons_succ, i64_w, i32_w]
                    rfl
                  refine pure_ (i := 1) (N := some 13) (v := ?_) (a' := ?_) #[true, true, false, false, false, false, false, false, false, false, false, false, false, false, false, false] rfl rfl (any_of HT_.out (by kernel_rfl)) (fun _ _ _ h => h) (Or.inl ⟨by rfl, ?_⟩) ?_ ?_
                  rotate_left
                  · intro w'
                    go_simp
                    with_reducible rfl
                  rotate_left
                  · simp only [Act.put, List.setIfInBounds_toArray, List.set_cons_zero, List.set_cons_succ, i64_w, i32_w]
                    rfl
                  refine pure_ (i := 2) (N := some 14) (v := ?_) (a' := ?_) #[true, true, true, false, false, false, false, false, false, false, false, false, false, false, false, false] rfl rfl (any_of HT_.out (by kernel_rfl)) (fun _ _ _ h => h) (Or.inl ⟨by rfl, ?_⟩) ?_ ?_
                  rotate_left
                  · intro w'
                    go_simp
                    with_reducible rfl
                  rotate_left
                  · simp only [Act.put, List.setIfInBounds_toArray, List.set_cons_zero, List.set_cons_succ, i64_w, i32_w]
                    rfl
                  refine pure_ (i := 3) (N := some 15) (v := ?_) (a' := ?_) #[true, true, true, true, false, false, false, false, false, false, false, false, false, false, false, false] rfl rfl (any_of HT_.out (by kernel_rfl)) (fun _ _ _ h => h) (Or.inl ⟨by rfl, ?_⟩) ?_ ?_
                  rotate_left
                  · intro w'
                    go_simp
                    with_reducible rfl
                  rotate_left
                  · simp only [Act.put, List.setIfInBounds_toArray, List.set_cons_zero, List.set_cons_succ, i64_w, i32_w]
                    rfl
                  refine pure_ (i := 4) (N := some 16) (v := ?_) (a' := ?_) #[true, true, true, true, true, false, false, false, false, false, false, false, false, false, false, false] rfl rfl (any_of HT_.out (by kernel_rfl)) (fun _ _ _ h => h) (Or.inl ⟨by rfl, ?_⟩) ?_ ?_
                  rotate_left
                  · intro w'
                    go_simp
                    with_reducible rfl
                  rotate_left
                  · simp only [Act.put, List.setIfInBounds_toArray, List.set_cons_zero, List.set_cons_succ, i64_w, i32_w]
                    rfl
                  refine pure_ (i := 6) (N := some 18) (v := ?_) (a' := ?_) #[true, true, true, true, true, false, true, false, false, false, false, false, false, false, false, false] rfl rfl (any_of HT_.out (by kernel_rfl)) (fun _ _ _ h => h) (Or.inl ⟨by rfl, ?_⟩) ?_ ?_
                  rotate_left
                  · intro w'
                    go_simp
                    with_reducible rfl
                  rotate_left
                  · simp only [Act.put, List.setIfInBounds_toArray, List.set_cons_zero, List.set_cons_succ, i64_w, i32_w]
                    rfl
                  refine pure_ (i := 7) (N := some 19) (v := ?_) (a' := ?_) #[true, true, true, true, true, false, true, true, false, false, false, false, false, false, false, false] rfl rfl (any_of HT_.out (by kernel_rfl)) (fun _ _ _ h => h) (Or.inl ⟨by rfl, ?_⟩) ?_ ?_
                  rotate_left
                  · intro w'
                    go_simp
                    with_reducible rfl
                  rotate_left
                  · simp only [Act.put, List.setIfInBounds_toArray, List.set_cons_zero, List.set_cons_succ, i64_w, i32_w]
                    rfl
                  refine pure_ (i := 8) (N := some 20) (v := ?_) (a' := ?_) #[true, true, true, true, true, false, true, true, true, false, false, false, false, false, false, false] rfl rfl (any_of HT_.out (by kernel_rfl)) (fun _ _ _ h => h) (Or.inl ⟨by rfl, ?_⟩) ?_ ?_
                  rotate_left
                  · intro w'
                    go_simp
                    with_reducible rfl
                  rotate_left
                  · simp only [Act.put, List.setIfInBounds_toArray, List.set_cons_zero, List.set_cons_succ, i64_w, i32_w]
                    rfl
                  refine pure_ (i := 9) (N := some 21) (v := ?_) (a' := ?_) #[true, true, true, true, true, false, true, true, true, true, false, false, false, false, false, false] rfl rfl (any_of HT_.out (by kernel_rfl)) (fun _ _ _ h => h) (Or.inl ⟨by rfl, ?_⟩) ?_ ?_
                  rotate_left
                  · intro w'
                    go_simp
                    with_reducible rfl
                  rotate_left
                  · simp only [Act.put, List.setIfInBounds_toArray, List.set_cons_zero, List.set_cons_succ, i64_w, i32_w]
                    rfl
                  refine pure_ (i := 10) (N := some 22) (v := ?_) (a' := ?_) #[true, true, true, true, true, false, true, true, true, true, true, false, false, false, false, false] rfl rfl (any_of HT_.out (by kernel_rfl)) (fun _ _ _ h => h) (Or.inl ⟨by rfl, ?_⟩) ?_ ?_
                  rotate_left
                  · intro w'
                    go_simp
                    with_reducible rfl
                  rotate_left
                  · simp only [Act.put, List.setIfInBounds_toArray, List.set_cons_zero, List.set_cons_succ, i64_w, i32_w]
                    rfl
                  refine pure_ (i := 11) (N := some 23) (v := ?_) (a' := ?_) #[true, true, true, true, true, false, true, true, true, true, true, true, false, false, false, false] rfl rfl (any_of HT_.out (by kernel_rfl)) (fun _ _ _ h => h) (Or.inl ⟨by rfl, ?_⟩) ?_ ?_
                  rotate_left
                  · intro w'
                    go_simp
                    with_reducible rfl
                  rotate_left
                  · simp only [Act.put, List.setIfInBounds_toArray, List.set_cons_zero, List.set_cons_succ, i64_w, i32_w]
                    rfl
                  refine take_ (i := 5) (N := some 17) (v := ?_) (a' := ?_) #[true, true, true, true, true, true, true, true, true, true, true, true, false, false, false, false] rfl rfl (take_ofW HT_.out HW_.out (by kernel_rfl)) (fun _ _ _ h => h) (Or.inl ⟨by rfl, ?_⟩) hHeld ?_ ?_
                  rotate_left
                  · rintro w' ⟨s0, s1, s2, s3, s4, s5, s6, s7, s8, s9, s10, s11, s12, s13, s14, s15, s16, s17, s18, s19, s20, s21, s22, s23, s24⟩
                    go_simp
                    with_reducible rfl
                  rotate_left
                  · simp only [Act.put, List.setIfInBounds_toArray, List.set_cons_zero, List.set_cons_succ, i64_w, i32_w]
                    rfl
                  refine take_ (i := 12) (N := some 24) (v := ?_) (a' := ?_) #[true, true, true, true, true, true, true, true, true, true, true, true, true, false, false, false] rfl rfl (take_ofW HT_.out HW_.out (by kernel_rfl)) (fun _ _ _ h => h) (Or.inl ⟨by rfl, ?_⟩) hHeld ?_ ?_
                  rotate_left
                  · rintro w' ⟨s0, s1, s2, s3, s4, s5, s6, s7, s8, s9, s10, s11, s12, s13, s14, s15, s16, s17, s18, s19, s20, s21, s22, s23, s24⟩
                    go_simp
                    with_reducible rfl
                  rotate_left
                  · simp only [Act.put, List.setIfInBounds_toArray, List.set_cons_zero, List.set_cons_succ, i64_w, i32_w]
                    rfl
                  refine pure_ (i := 13) (N := some 25) (v := ?_) (a' := ?_) #[true, true, true, true, true, true, true, true, true, true, true, true, true, true, false, false] rfl rfl (any_of HT_.out (by kernel_rfl)) (fun _ _ _ h => h) (Or.inl ⟨by rfl, ?_⟩) ?_ ?_
                  rotate_left
                  · intro w'
                    go_simp
                    with_reducible rfl
                  rotate_left
                  · simp only [Act.put, List.setIfInBounds_toArray, List.set_cons_zero, List.set_cons_succ, i64_w, i32_w]
                    rfl
                  refine take_ (i := 14) (N := some 26) (v := ?_) (a' := ?_) #[true, true, true, true, true, true, true, true, true, true, true, true, true, true, true, false] rfl rfl (take_ofW HT_.out HW_.out (by kernel_rfl)) (fun _ _ _ h => h) (Or.inl ⟨by rfl, ?_⟩) hHeld ?_ ?_
                  rotate_left
                  · rintro w' ⟨s0, s1, s2, s3, s4, s5, s6, s7, s8, s9, s10, s11, s12, s13, s14, s15, s16, s17, s18, s19, s20, s21, s22, s23, s24⟩
                    go_simp
                    with_reducible rfl
                  rotate_left
                  · simp only [Act.put, List.setIfInBounds_toArray, List.set_cons_zero, List.set_cons_succ, i64_w, i32_w]
                    rfl
                  refine pure_ (i := 15) (N := some 27) (v := ?_) (a' := ?_) #[true, true, true, true, true, true, true, true, true, true, true, true, true, true, true, true] rfl rfl (any_of HT_.out (by kernel_rfl)) (fun _ _ _ h => h) (Or.inl ⟨by rfl, ?_⟩) ?_ ?_
                  rotate_left
                  · intro w'
                    go_simp
                    with_reducible rfl
                  rotate_left
                  · simp only [Act.put, List.setIfInBounds_toArray, List.set_cons_zero, List.set_cons_succ, i64_w, i32_w]
                    rfl
                  refine done_ (done_of HT_.out (by kernel_rfl)) ?_
                  try go_wp2
                  have n0_ := Aside0.mk (Kd.R_drew HO_3.out)
                  have n1_ := Aside0.mk (below_drew1 HB.out)
                  clear HO_3
                  clear HB
                  have HO_3 := n0_
                  have HB := n1_
                  clear n0_ n1_
                  have p215 : 0 ≤ (x4_1 : Int) := of_decide_eq_true (by first | (with_reducible assumption) | assumption)
                  have q215 : x4_1 < (l0.length : Int) := of_decide_eq_true (by first | (with_reducible assumption) | assumption)
                  obtain ⟨ad215, e215, hx215_0, hx215_1, hx215_2, hx215_3, hx215_4, hx215_5, hx215_6, hx215_7, hx215_8, hx215_9, hx215_10, hx215_11⟩ := at_T30 HR0.out x4_1 p215 q215
                  have hw215_11 := hx215_11
                  have hw215_10 := hx215_10
                  have hw215_9 := hx215_9
                  have hw215_8 := hx215_8
                  have hw215_7 := hx215_7
                  have hw215_6 := hx215_6
                  have hw215_5 := hx215_5
                  have hw215_4 := hx215_4
                  have hw215_3 := hx215_3
                  have hw215_2 := hx215_2
                  have hw215_1 := hx215_1
                  have hw215_0 := hx215_0
                  obtain rfl : ad212 = ad215 := (by injection e215)
                  replace hx215_0 := (HB.out.cell (World.block_lt_of_cell? w _ hx215_0)).trans hx215_0
                  replace hx215_1 := (HB.out.cell (World.block_lt_of_cell? w _ hx215_1)).trans hx215_1
                  replace hx215_2 := (HB.out.cell (World.block_lt_of_cell? w _ hx215_2)).trans hx215_2
                  replace hx215_3 := (HB.out.cell (World.block_lt_of_cell? w _ hx215_3)).trans hx215_3
                  replace hx215_4 := (HB.out.cell (World.block_lt_of_cell? w _ hx215_4)).trans hx215_4
                  replace hx215_5 := (HB.out.cell (World.block_lt_of_cell? w _ hx215_5)).trans hx215_5
                  replace hx215_6 := (HB.out.cell (World.block_lt_of_cell? w _ hx215_6)).trans hx215_6
                  replace hx215_7 := (HB.out.cell (World.block_lt_of_cell? w _ hx215_7)).trans hx215_7
                  replace hx215_8 := (HB.out.cell (World.block_lt_of_cell? w _ hx215_8)).trans hx215_8
                  replace hx215_9 := (HB.out.cell (World.block_lt_of_cell? w _ hx215_9)).trans hx215_9
                  replace hx215_10 := (HB.out.cell (World.block_lt_of_cell? w _ hx215_10)).trans hx215_10
                  replace hx215_11 := (HB.out.cell (World.block_lt_of_cell? w _ hx215_11)).trans hx215_11
                  replace p215 := eq_true p215
                  replace q215 := eq_true q215
                  have p216 : 0 ≤ (x4_1 : Int) := of_decide_eq_true (by first | (with_reducible assumption) | assumption)
                  have q216 : x4_1 < (l0.length : Int) := of_decide_eq_true (by first | (with_reducible assumption) | assumption)
                  obtain ⟨ad216, e216, hx216_0, hx216_1, hx216_2, hx216_3, hx216_4, hx216_5, hx216_6, hx216_7, hx216_8, hx216_9, hx216_10, hx216_11⟩ := at_T30 HR0.out x4_1 p216 q216
                  have hw216_11 := hx216_11
                  have hw216_10 := hx216_10
                  have hw216_9 := hx216_9
                  have hw216_8 := hx216_8
                  have hw216_7 := hx216_7
                  have hw216_6 := hx216_6
                  have hw216_5 := hx216_5
                  have hw216_4 := hx216_4
                  have hw216_3 := hx216_3
                  have hw216_2 := hx216_2
                  have hw216_1 := hx216_1
                  have hw216_0 := hx216_0
                  obtain rfl : ad212 = ad216 := (by injection e216)
                  replace hx216_0 := (HB.out.cell (World.block_lt_of_cell? w _ hx216_0)).trans hx216_0
                  replace hx216_1 := (HB.out.cell (World.block_lt_of_cell? w _ hx216_1)).trans hx216_1
                  replace hx216_2 := (HB.out.cell (World.block_lt_of_cell? w _ hx216_2)).trans hx216_2
                  replace hx216_3 := (HB.out.cell (World.block_lt_of_cell? w _ hx216_3)).trans hx216_3
                  replace hx216_4 := (HB.out.cell (World.block_lt_of_cell? w _ hx216_4)).trans hx216_4
                  replace hx216_5 := (HB.out.cell (World.block_lt_of_cell? w _ hx216_5)).trans hx216_5
                  replace hx216_6 := (HB.out.cell (World.block_lt_of_cell? w _ hx216_6)).trans hx216_6
                  replace hx216_7 := (HB.out.cell (World.block_lt_of_cell? w _ hx216_7)).trans hx216_7
                  replace hx216_8 := (HB.out.cell (World.block_lt_of_cell? w _ hx216_8)).trans hx216_8
                  replace hx216_9 := (HB.out.cell (World.block_lt_of_cell? w _ hx216_9)).trans hx216_9
                  replace hx216_10 := (HB.out.cell (World.block_lt_of_cell? w _ hx216_10)).trans hx216_10
                  replace hx216_11 := (HB.out.cell (World.block_lt_of_cell? w _ hx216_11)).trans hx216_11
                  replace p216 := eq_true p216
                  replace q216 := eq_true q216
                  have p10 : 0 ≤ (((rd_T30 l0 x4_1).f0.f1) : Int) := of_decide_eq_true (by first | (with_reducible assumption) | assumption)
                  have q10 : (((rd_T30 l0 x4_1).f0.f1) : Int) < ((x3_1.length : Int) : Int) := of_decide_eq_true (by first | (with_reducible assumption) | assumption)
                  obtain ⟨go10, co10, eo10, gb10, gl10, cl10, HG10⟩ := Kd.R_form HO_3.out (by omega)
                  (first | cases eo10 | (injection eo10 with ea_ en_ ec_; (first | subst ea_ | (injection ea_ with ea_; subst ea_)); subst ec_; clear en_))
                  have GB10 := Aside0.mk gb10
                  have GG10 := Aside0.mk HG10
                  clear gb10 gl10 HG10
                  (first | simp only [add_plain] at hx214_0 | skip)
                  obtain ⟨hx10_0, hf10_0⟩ := Kd.R_celln 0 HO_3.out (((rd_T30 l0 x4_1).f0.f1) : Int) p10 q10
                  replace p10 := eq_true p10
                  replace q10 := eq_true q10
                  have HP14 := Kd.R_putn HO_3.out (((rd_T30 l0 x4_1).f0.f1) : Int) ((rd_T30 l0 x4_1).f0.f0)
                  rw [← Ny217.out] at HP14
                  have HQ14 := Aside0.mk HP14
                  clear HP14
                  refine start_ (n := 15) (S := fun w' => w'.cell? (ad212.add ((x4_1).toNat * 12)) = some (.int .i64 ((rd_T30 l0 x4_1).f0.f0)) ∧ w'.cell? ⟨(ad212.add ((x4_1).toNat * 12)).block, (ad212.add ((x4_1).toNat * 12)).off + 1, none⟩ = some (.int .i64 ((rd_T30 l0 x4_1).f0.f1)) ∧ w'.cell? ⟨(ad212.add ((x4_1).toNat * 12)).block, (ad212.add ((x4_1).toNat * 12)).off + 2, none⟩ = some (.int .i64 ((rd_T30 l0 x4_1).f1)) ∧ w'.cell? ⟨(ad212.add ((x4_1).toNat * 12)).block, (ad212.add ((x4_1).toNat * 12)).off + 3, none⟩ = some (.int .i64 ((rd_T30 l0 x4_1).f2.f0)) ∧ w'.cell? ⟨(ad212.add ((x4_1).toNat * 12)).block, (ad212.add ((x4_1).toNat * 12)).off + 4, none⟩ = some (.int .i64 ((rd_T30 l0 x4_1).f2.f1)) ∧ w'.cell? ⟨(ad212.add ((x4_1).toNat * 12)).block, (ad212.add ((x4_1).toNat * 12)).off + 5, none⟩ = some (.int .i64 ((rd_T30 l0 x4_1).f3.f0)) ∧ w'.cell? ⟨(ad212.add ((x4_1).toNat * 12)).block, (ad212.add ((x4_1).toNat * 12)).off + 6, none⟩ = some (.int .i64 ((rd_T30 l0 x4_1).f3.f1)) ∧ w'.cell? ⟨(ad212.add ((x4_1).toNat * 12)).block, (ad212.add ((x4_1).toNat * 12)).off + 7, none⟩ = some (.int .i64 ((rd_T30 l0 x4_1).f4.f0)) ∧ w'.cell? ⟨(ad212.add ((x4_1).toNat * 12)).block, (ad212.add ((x4_1).toNat * 12)).off + 8, none⟩ = some (.int .i64 ((rd_T30 l0 x4_1).f4.f1)) ∧ w'.cell? ⟨(ad212.add ((x4_1).toNat * 12)).block, (ad212.add ((x4_1).toNat * 12)).off + 9, none⟩ = some (.int .i64 ((rd_T30 l0 x4_1).f5)) ∧ w'.cell? ⟨(ad212.add ((x4_1).toNat * 12)).block, (ad212.add ((x4_1).toNat * 12)).off + 10, none⟩ = some (.bool ((rd_T30 l0 x4_1).f6)) ∧ w'.cell? ⟨(ad212.add ((x4_1).toNat * 12)).block, (ad212.add ((x4_1).toNat * 12)).off + 11, none⟩ = some (.string ((rd_T30 l0 x4_1).f7)) ∧ w'.cell? (ad212.add ((x4_1).toNat * 12)) = some (.int .i64 ((rd_T30 l0 x4_1).f0.f0)) ∧ w'.cell? ⟨(ad212.add ((x4_1).toNat * 12)).block, (ad212.add ((x4_1).toNat * 12)).off + 1, none⟩ = some (.int .i64 ((rd_T30 l0 x4_1).f0.f1)) ∧ w'.cell? ⟨(ad212.add ((x4_1).toNat * 12)).block, (ad212.add ((x4_1).toNat * 12)).off + 2, none⟩ = some (.int .i64 ((rd_T30 l0 x4_1).f1)) ∧ w'.cell? ⟨(ad212.add ((x4_1).toNat * 12)).block, (ad212.add ((x4_1).toNat * 12)).off + 3, none⟩ = some (.int .i64 ((rd_T30 l0 x4_1).f2.f0)) ∧ w'.cell? ⟨(ad212.add ((x4_1).toNat * 12)).block, (ad212.add ((x4_1).toNat * 12)).off + 4, none⟩ = some (.int .i64 ((rd_T30 l0 x4_1).f2.f1)) ∧ w'.cell? ⟨(ad212.add ((x4_1).toNat * 12)).block, (ad212.add ((x4_1).toNat * 12)).off + 5, none⟩ = some (.int .i64 ((rd_T30 l0 x4_1).f3.f0)) ∧ w'.cell? ⟨(ad212.add ((x4_1).toNat * 12)).block, (ad212.add ((x4_1).toNat * 12)).off + 6, none⟩ = some (.int .i64 ((rd_T30 l0 x4_1).f3.f1)) ∧ w'.cell? ⟨(ad212.add ((x4_1).toNat * 12)).block, (ad212.add ((x4_1).toNat * 12)).off + 7, none⟩ = some (.int .i64 ((rd_T30 l0 x4_1).f4.f0)) ∧ w'.cell? ⟨(ad212.add ((x4_1).toNat * 12)).block, (ad212.add ((x4_1).toNat * 12)).off + 8, none⟩ = some (.int .i64 ((rd_T30 l0 x4_1).f4.f1)) ∧ w'.cell? ⟨(ad212.add ((x4_1).toNat * 12)).block, (ad212.add ((x4_1).toNat * 12)).off + 9, none⟩ = some (.int .i64 ((rd_T30 l0 x4_1).f5)) ∧ w'.cell? ⟨(ad212.add ((x4_1).toNat * 12)).block, (ad212.add ((x4_1).toNat * 12)).off + 10, none⟩ = some (.bool ((rd_T30 l0 x4_1).f6)) ∧ w'.cell? ⟨(ad212.add ((x4_1).toNat * 12)).block, (ad212.add ((x4_1).toNat * 12)).off + 11, none⟩ = some (.string ((rd_T30 l0 x4_1).f7))) (ds := [14]) #[false, false, false, false, false, false, false, false, false, false, false, false, false, false, false] (by kernel_rfl) rfl rfl ⟨((HB.out.cell (World.block_lt_of_cell? w _ hw215_0)).trans hw215_0), ((HB.out.cell (World.block_lt_of_cell? w _ hw215_1)).trans hw215_1), ((HB.out.cell (World.block_lt_of_cell? w _ hw215_2)).trans hw215_2), ((HB.out.cell (World.block_lt_of_cell? w _ hw215_3)).trans hw215_3), ((HB.out.cell (World.block_lt_of_cell? w _ hw215_4)).trans hw215_4), ((HB.out.cell (World.block_lt_of_cell? w _ hw215_5)).trans hw215_5), ((HB.out.cell (World.block_lt_of_cell? w _ hw215_6)).trans hw215_6), ((HB.out.cell (World.block_lt_of_cell? w _ hw215_7)).trans hw215_7), ((HB.out.cell (World.block_lt_of_cell? w _ hw215_8)).trans hw215_8), ((HB.out.cell (World.block_lt_of_cell? w _ hw215_9)).trans hw215_9), ((HB.out.cell (World.block_lt_of_cell? w _ hw215_10)).trans hw215_10), ((HB.out.cell (World.block_lt_of_cell? w _ hw215_11)).trans hw215_11), ((HB.out.cell (World.block_lt_of_cell? w _ hw216_0)).trans hw216_0), ((HB.out.cell (World.block_lt_of_cell? w _ hw216_1)).trans hw216_1), ((HB.out.cell (World.block_lt_of_cell? w _ hw216_2)).trans hw216_2), ((HB.out.cell (World.block_lt_of_cell? w _ hw216_3)).trans hw216_3), ((HB.out.cell (World.block_lt_of_cell? w _ hw216_4)).trans hw216_4), ((HB.out.cell (World.block_lt_of_cell? w _ hw216_5)).trans hw216_5), ((HB.out.cell (World.block_lt_of_cell? w _ hw216_6)).trans hw216_6), ((HB.out.cell (World.block_lt_of_cell? w _ hw216_7)).trans hw216_7), ((HB.out.cell (World.block_lt_of_cell? w _ hw216_8)).trans hw216_8), ((HB.out.cell (World.block_lt_of_cell? w _ hw216_9)).trans hw216_9), ((HB.out.cell (World.block_lt_of_cell? w _ hw216_10)).trans hw216_10), ((HB.out.cell (World.block_lt_of_cell? w _ hw216_11)).trans hw216_11)⟩ (fun hHeld => ?_); refine with_tabW spec_logVector.tab6 spec_logVector.bits6 (fun HT_ HW_ => ?_)
                  generalize w11.drew = w13 at HO_3 HB GG10 HQ14 hf10_0 hx10_0 hx214_0 hx215_0 hx215_1 hx215_10 hx215_11 hx215_2 hx215_3 hx215_4 hx215_5 hx215_6 hx215_7 hx215_8 hx215_9 hx216_0 hx216_1 hx216_10 hx216_11 hx216_2 hx216_3 hx216_4 hx216_5 hx216_6 hx216_7 hx216_8 hx216_9 hHeld ⊢
                  refine pure_ (i := 0) (N := some 28) (v := ?_) (a' := ?_) #[true, false, false, false, false, false, false, false, false, false, false, false, false, false, false] rfl rfl (any_of HT_.out (by kernel_rfl)) (fun _ _ _ h => h) (Or.inl ⟨by rfl, ?_⟩) ?_ ?_
                  rotate_left
                  · intro w'
                    go_simp
                    with_reducible rfl
                  rotate_left
                  · simp only [Act.put, List.setIfInBounds_toArray, List.set_cons_zero, List.set_cons_succ, i64_w, i32_w]
                    rfl
                  refine pure_ (i := 1) (N := some 29) (v := ?_) (a' := ?_) #[true, true, false, false, false, false, false, false, false, false, false, false, false, false, false] rfl rfl (any_of HT_.out (by kernel_rfl)) (fun _ _ _ h => h) (Or.inl ⟨by rfl, ?_⟩) ?_ ?_
                  rotate_left
                  · intro w'
                    go_simp
                    with_reducible rfl
                  rotate_left
                  · simp only [Act.put, List.setIfInBounds_toArray, List.set_cons_zero, List.set_cons_succ, i64_w, i32_w]
                    rfl
                  refine pure_ (i := 2) (N := some 30) (v := ?_) (a' := ?_) #[true, true, true, false, false, false, false, false, false, false, false, false, false, false, false] rfl rfl (any_of HT_.out (by kernel_rfl)) (fun _ _ _ h => h) (Or.inl ⟨by rfl, ?_⟩) ?_ ?_
                  rotate_left
                  · intro w'
                    go_simp
                    with_reducible rfl
                  rotate_left
                  · simp only [Act.put, List.setIfInBounds_toArray, List.set_cons_zero, List.set_cons_succ, i64_w, i32_w]
                    rfl
                  refine pure_ (i := 3) (N := some 31) (v := ?_) (a' := ?_) #[true, true, true, true, false, false, false, false, false, false, false, false, false, false, false] rfl rfl (any_of HT_.out (by kernel_rfl)) (fun _ _ _ h => h) (Or.inl ⟨by rfl, ?_⟩) ?_ ?_
                  rotate_left
                  · intro w'
                    go_simp
                    with_reducible rfl
                  rotate_left
                  · simp only [Act.put, List.setIfInBounds_toArray, List.set_cons_zero, List.set_cons_succ, i64_w, i32_w]
                    rfl
                  refine pure_ (i := 4) (N := some 32) (v := ?_) (a' := ?_) #[true, true, true, true, true, false, false, false, false, false, false, false, false, false, false] rfl rfl (any_of HT_.out (by kernel_rfl)) (fun _ _ _ h => h) (Or.inl ⟨by rfl, ?_⟩) ?_ ?_
                  rotate_left
                  · intro w'
                    go_simp
                    with_reducible rfl
                  rotate_left
                  · simp only [Act.put, List.setIfInBounds_toArray, List.set_cons_zero, List.set_cons_succ, i64_w, i32_w]
                    rfl
                  refine pure_ (i := 5) (N := some 33) (v := ?_) (a' := ?_) #[true, true, true, true, true, true, false, false, false, false, false, false, false, false, false] rfl rfl (any_of HT_.out (by kernel_rfl)) (fun _ _ _ h => h) (Or.inl ⟨by rfl, ?_⟩) ?_ ?_
                  rotate_left
                  · intro w'
                    go_simp
                    with_reducible rfl
                  rotate_left
                  · simp only [Act.put, List.setIfInBounds_toArray, List.set_cons_zero, List.set_cons_succ, i64_w, i32_w]
                    rfl
                  refine pure_ (i := 7) (N := some 35) (v := ?_) (a' := ?_) #[true, true, true, true, true, true, false, true, false, false, false, false, false, false, false] rfl rfl (any_of HT_.out (by kernel_rfl)) (fun _ _ _ h => h) (Or.inl ⟨by rfl, ?_⟩) ?_ ?_
                  rotate_left
                  · intro w'
                    go_simp
                    with_reducible rfl
                  rotate_left
                  · simp only [Act.put, List.setIfInBounds_toArray, List.set_cons_zero, List.set_cons_succ, i64_w, i32_w]
                    rfl
                  refine pure_ (i := 8) (N := some 36) (v := ?_) (a' := ?_) #[true, true, true, true, true, true, false, true, true, false, false, false, false, false, false] rfl rfl (any_of HT_.out (by kernel_rfl)) (fun _ _ _ h => h) (Or.inl ⟨by rfl, ?_⟩) ?_ ?_
                  rotate_left
                  · intro w'
                    go_simp
                    with_reducible rfl
                  rotate_left
                  · simp only [Act.put, List.setIfInBounds_toArray, List.set_cons_zero, List.set_cons_succ, i64_w, i32_w]
                    rfl
                  refine pure_ (i := 9) (N := some 37) (v := ?_) (a' := ?_) #[true, true, true, true, true, true, false, true, true, true, false, false, false, false, false] rfl rfl (any_of HT_.out (by kernel_rfl)) (fun _ _ _ h => h) (Or.inl ⟨by rfl, ?_⟩) ?_ ?_
                  rotate_left
                  · intro w'
                    go_simp
                    with_reducible rfl
                  rotate_left
                  · simp only [Act.put, List.setIfInBounds_toArray, List.set_cons_zero, List.set_cons_succ, i64_w, i32_w]
                    rfl
                  refine pure_ (i := 10) (N := some 38) (v := ?_) (a' := ?_) #[true, true, true, true, true, true, false, true, true, true, true, false, false, false, false] rfl rfl (any_of HT_.out (by kernel_rfl)) (fun _ _ _ h => h) (Or.inl ⟨by rfl, ?_⟩) ?_ ?_
                  rotate_left
                  · intro w'
                    go_simp
                    with_reducible rfl
                  rotate_left
                  · simp only [Act.put, List.setIfInBounds_toArray, List.set_cons_zero, List.set_cons_succ, i64_w, i32_w]
                    rfl
                  refine pure_ (i := 11) (N := some 39) (v := ?_) (a' := ?_) #[true, true, true, true, true, true, false, true, true, true, true, true, false, false, false] rfl rfl (any_of HT_.out (by kernel_rfl)) (fun _ _ _ h => h) (Or.inl ⟨by rfl, ?_⟩) ?_ ?_
                  rotate_left
                  · intro w'
                    go_simp
                    with_reducible rfl
                  rotate_left
                  · simp only [Act.put, List.setIfInBounds_toArray, List.set_cons_zero, List.set_cons_succ, i64_w, i32_w]
                    rfl
                  refine take_ (i := 6) (N := some 34) (v := ?_) (a' := ?_) #[true, true, true, true, true, true, true, true, true, true, true, true, false, false, false] rfl rfl (take_ofW HT_.out HW_.out (by kernel_rfl)) (fun _ _ _ h => h) (Or.inl ⟨by rfl, ?_⟩) hHeld ?_ ?_
                  rotate_left
                  · rintro w' ⟨s0, s1, s2, s3, s4, s5, s6, s7, s8, s9, s10, s11, s12, s13, s14, s15, s16, s17, s18, s19, s20, s21, s22, s23⟩
                    go_simp
                    with_reducible rfl
                  rotate_left
                  · simp only [Act.put, List.setIfInBounds_toArray, List.set_cons_zero, List.set_cons_succ, i64_w, i32_w]
                    rfl
                  refine take_ (i := 12) (N := some 40) (v := ?_) (a' := ?_) #[true, true, true, true, true, true, true, true, true, true, true, true, true, false, false] rfl rfl (take_ofW HT_.out HW_.out (by kernel_rfl)) (fun _ _ _ h => h) (Or.inl ⟨by rfl, ?_⟩) hHeld ?_ ?_
                  rotate_left
                  · rintro w' ⟨s0, s1, s2, s3, s4, s5, s6, s7, s8, s9, s10, s11, s12, s13, s14, s15, s16, s17, s18, s19, s20, s21, s22, s23⟩
                    go_simp
                    with_reducible rfl
                  rotate_left
                  · simp only [Act.put, List.setIfInBounds_toArray, List.set_cons_zero, List.set_cons_succ, i64_w, i32_w]
                    rfl
                  refine pure_ (i := 13) (N := some 41) (v := ?_) (a' := ?_) #[true, true, true, true, true, true, true, true, true, true, true, true, true, true, false] rfl rfl (any_of HT_.out (by kernel_rfl)) (fun _ _ _ h => h) (Or.inl ⟨by rfl, ?_⟩) ?_ ?_
                  rotate_left
                  · intro w'
                    go_simp
                    with_reducible rfl
                  rotate_left
                  · simp only [Act.put, List.setIfInBounds_toArray, List.set_cons_zero, List.set_cons_succ, i64_w, i32_w]
                    rfl
                  refine last_ (i := 14) (N := none) #[true, true, true, true, true, true, true, true, true, true, true, true, true, true, true] rfl rfl (one_of HT_.out (by kernel_rfl)) (by decide) (fun K hK => ?_)
                  refine skip_ (w1 := ?_) (by rfl) rfl ?_ ?_
                  rotate_left
                  · go_simp
                    rfl
                  refine hK.out _ _ ?_
                  clear hK K
                  refine done_ (done_of HT_.out (by kernel_rfl)) ?_
                  try go_wp2
                  go_roundg k1
                  case measure => have := HK1.out; omega
                  case rel => exact ⟨(y217), (wrap64 (x4_1 + 1)), (by first | rfl | (simp; done) | (simp [*]; done)), H', ⟨by have := HK1.out; omega⟩, ⟨by (with_reducible repeat (first | apply Kd.R_alloc | apply Kd.R_drewN | apply Kd.R_drew)); exact HQ14.out⟩, ⟨by repeat (first | (with_reducible first | exact HB.out | apply below_alloc | apply pw_below_drewN | apply below_drew1 | refine below_set ?_ GB10.out) | exact HB.out)⟩⟩
                · rw [if_neg c9] at H
                  have c9b0 : decide ((rd x3_1 ((rd_T30 l0 x4_1).f0.f1)) < ((rd_T30 l0 x4_1).f0.f0)) = false := decide_eq_false c9
                  clear c9
                  have H' := Aside0.mk H
                  clear H
                  try go_wp2
                  have n0_ := Aside0.mk (Kd.R_drew HO_3.out)
                  have n1_ := Aside0.mk (below_drew1 HB.out)
                  clear HO_3
                  clear HB
                  have HO_3 := n0_
                  have HB := n1_
                  clear n0_ n1_
                  have p212 : 0 ≤ (x4_1 : Int) := of_decide_eq_true (by first | (with_reducible assumption) | assumption)
                  have q212 : x4_1 < (l0.length : Int) := of_decide_eq_true (by first | (with_reducible assumption) | assumption)
                  obtain ⟨ad212, e212, hx212_0, hx212_1, hx212_2, hx212_3, hx212_4, hx212_5, hx212_6, hx212_7, hx212_8, hx212_9, hx212_10, hx212_11⟩ := at_T30 HR0.out x4_1 p212 q212
                  have hw212_11 := hx212_11
                  have hw212_10 := hx212_10
                  have hw212_9 := hx212_9
                  have hw212_8 := hx212_8
                  have hw212_7 := hx212_7
                  have hw212_6 := hx212_6
                  have hw212_5 := hx212_5
                  have hw212_4 := hx212_4
                  have hw212_3 := hx212_3
                  have hw212_2 := hx212_2
                  have hw212_1 := hx212_1
                  have hw212_0 := hx212_0
                  cases e212
                  replace hx212_0 := (HB.out.cell (World.block_lt_of_cell? w _ hx212_0)).trans hx212_0
                  replace hx212_1 := (HB.out.cell (World.block_lt_of_cell? w _ hx212_1)).trans hx212_1
                  replace hx212_2 := (HB.out.cell (World.block_lt_of_cell? w _ hx212_2)).trans hx212_2
                  replace hx212_3 := (HB.out.cell (World.block_lt_of_cell? w _ hx212_3)).trans hx212_3
                  replace hx212_4 := (HB.out.cell (World.block_lt_of_cell? w _ hx212_4)).trans hx212_4
                  replace hx212_5 := (HB.out.cell (World.block_lt_of_cell? w _ hx212_5)).trans hx212_5
                  replace hx212_6 := (HB.out.cell (World.block_lt_of_cell? w _ hx212_6)).trans hx212_6
                  replace hx212_7 := (HB.out.cell (World.block_lt_of_cell? w _ hx212_7)).trans hx212_7
                  replace hx212_8 := (HB.out.cell (World.block_lt_of_cell? w _ hx212_8)).trans hx212_8
                  replace hx212_9 := (HB.out.cell (World.block_lt_of_cell? w _ hx212_9)).trans hx212_9
                  replace hx212_10 := (HB.out.cell (World.block_lt_of_cell? w _ hx212_10)).trans hx212_10
                  replace hx212_11 := (HB.out.cell (World.block_lt_of_cell? w _ hx212_11)).trans hx212_11
                  replace p212 := eq_true p212
                  replace q212 := eq_true q212
                  have p213 : 0 ≤ (x4_1 : Int) := of_decide_eq_true (by first | (with_reducible assumption) | assumption)
                  have q213 : x4_1 < (l0.length : Int) := of_decide_eq_true (by first | (with_reducible assumption) | assumption)
                  obtain ⟨ad213, e213, hx213_0, hx213_1, hx213_2, hx213_3, hx213_4, hx213_5, hx213_6, hx213_7, hx213_8, hx213_9, hx213_10, hx213_11⟩ := at_T30 HR0.out x4_1 p213 q213
                  have hw213_11 := hx213_11
                  have hw213_10 := hx213_10
                  have hw213_9 := hx213_9
                  have hw213_8 := hx213_8
                  have hw213_7 := hx213_7
                  have hw213_6 := hx213_6
                  have hw213_5 := hx213_5
                  have hw213_4 := hx213_4
                  have hw213_3 := hx213_3
                  have hw213_2 := hx213_2
                  have hw213_1 := hx213_1
                  have hw213_0 := hx213_0
                  obtain rfl : ad212 = ad213 := (by injection e213)
                  replace hx213_0 := (HB.out.cell (World.block_lt_of_cell? w _ hx213_0)).trans hx213_0
                  replace hx213_1 := (HB.out.cell (World.block_lt_of_cell? w _ hx213_1)).trans hx213_1
                  replace hx213_2 := (HB.out.cell (World.block_lt_of_cell? w _ hx213_2)).trans hx213_2
                  replace hx213_3 := (HB.out.cell (World.block_lt_of_cell? w _ hx213_3)).trans hx213_3
                  replace hx213_4 := (HB.out.cell (World.block_lt_of_cell? w _ hx213_4)).trans hx213_4
                  replace hx213_5 := (HB.out.cell (World.block_lt_of_cell? w _ hx213_5)).trans hx213_5
                  replace hx213_6 := (HB.out.cell (World.block_lt_of_cell? w _ hx213_6)).trans hx213_6
                  replace hx213_7 := (HB.out.cell (World.block_lt_of_cell? w _ hx213_7)).trans hx213_7
                  replace hx213_8 := (HB.out.cell (World.block_lt_of_cell? w _ hx213_8)).trans hx213_8
                  replace hx213_9 := (HB.out.cell (World.block_lt_of_cell? w _ hx213_9)).trans hx213_9
                  replace hx213_10 := (HB.out.cell (World.block_lt_of_cell? w _ hx213_10)).trans hx213_10
                  replace hx213_11 := (HB.out.cell (World.block_lt_of_cell? w _ hx213_11)).trans hx213_11
                  replace p213 := eq_true p213
                  replace q213 := eq_true q213
                  obtain ⟨Ao16, co16, eo16⟩ := Kd.R_slice HO_3.out
                  (first | subst eo16 | (injection eo16 with f1_ f2_ f3_; have f4_ := f1_.symm; have f5_ := f3_.symm; clear f1_ f2_ f3_; subst f4_; subst f5_))
                  have p214 : 0 ≤ (((rd_T30 l0 x4_1).f0.f1) : Int) := of_decide_eq_true (by first | (with_reducible assumption) | assumption)
                  have q214 : ((rd_T30 l0 x4_1).f0.f1) < (x3_1.length : Int) := of_decide_eq_true (by first | (with_reducible assumption) | assumption)
                  obtain ⟨ad214, e214, hx214_0⟩ := Kd.at_int (Kd.R_reads' HO_3.out).2.2 ((rd_T30 l0 x4_1).f0.f1) p214 q214
                  cases e214
                  replace p214 := eq_true p214
                  replace q214 := eq_true q214
                  refine start_ (n := 16) (S := fun w' => w'.cell? (ad212.add ((x4_1).toNat * 12)) = some (.int .i64 ((rd_T30 l0 x4_1).f0.f0)) ∧ w'.cell? ⟨(ad212.add ((x4_1).toNat * 12)).block, (ad212.add ((x4_1).toNat * 12)).off + 1, none⟩ = some (.int .i64 ((rd_T30 l0 x4_1).f0.f1)) ∧ w'.cell? ⟨(ad212.add ((x4_1).toNat * 12)).block, (ad212.add ((x4_1).toNat * 12)).off + 2, none⟩ = some (.int .i64 ((rd_T30 l0 x4_1).f1)) ∧ w'.cell? ⟨(ad212.add ((x4_1).toNat * 12)).block, (ad212.add ((x4_1).toNat * 12)).off + 3, none⟩ = some (.int .i64 ((rd_T30 l0 x4_1).f2.f0)) ∧ w'.cell? ⟨(ad212.add ((x4_1).toNat * 12)).block, (ad212.add ((x4_1).toNat * 12)).off + 4, none⟩ = some (.int .i64 ((rd_T30 l0 x4_1).f2.f1)) ∧ w'.cell? ⟨(ad212.add ((x4_1).toNat * 12)).block, (ad212.add ((x4_1).toNat * 12)).off + 5, none⟩ = some (.int .i64 ((rd_T30 l0 x4_1).f3.f0)) ∧ w'.cell? ⟨(ad212.add ((x4_1).toNat * 12)).block, (ad212.add ((x4_1).toNat * 12)).off + 6, none⟩ = some (.int .i64 ((rd_T30 l0 x4_1).f3.f1)) ∧ w'.cell? ⟨(ad212.add ((x4_1).toNat * 12)).block, (ad212.add ((x4_1).toNat * 12)).off + 7, none⟩ = some (.int .i64 ((rd_T30 l0 x4_1).f4.f0)) ∧ w'.cell? ⟨(ad212.add ((x4_1).toNat * 12)).block, (ad212.add ((x4_1).toNat * 12)).off + 8, none⟩ = some (.int .i64 ((rd_T30 l0 x4_1).f4.f1)) ∧ w'.cell? ⟨(ad212.add ((x4_1).toNat * 12)).block, (ad212.add ((x4_1).toNat * 12)).off + 9, none⟩ = some (.int .i64 ((rd_T30 l0 x4_1).f5)) ∧ w'.cell? ⟨(ad212.add ((x4_1).toNat * 12)).block, (ad212.add ((x4_1).toNat * 12)).off + 10, none⟩ = some (.bool ((rd_T30 l0 x4_1).f6)) ∧ w'.cell? ⟨(ad212.add ((x4_1).toNat * 12)).block, (ad212.add ((x4_1).toNat * 12)).off + 11, none⟩ = some (.string ((rd_T30 l0 x4_1).f7)) ∧ w'.cell? (ad212.add ((x4_1).toNat * 12)) = some (.int .i64 ((rd_T30 l0 x4_1).f0.f0)) ∧ w'.cell? ⟨(ad212.add ((x4_1).toNat * 12)).block, (ad212.add ((x4_1).toNat * 12)).off + 1, none⟩ = some (.int .i64 ((rd_T30 l0 x4_1).f0.f1)) ∧ w'.cell? ⟨(ad212.add ((x4_1).toNat * 12)).block, (ad212.add ((x4_1).toNat * 12)).off + 2, none⟩ = some (.int .i64 ((rd_T30 l0 x4_1).f1)) ∧ w'.cell? ⟨(ad212.add ((x4_1).toNat * 12)).block, (ad212.add ((x4_1).toNat * 12)).off + 3, none⟩ = some (.int .i64 ((rd_T30 l0 x4_1).f2.f0)) ∧ w'.cell? ⟨(ad212.add ((x4_1).toNat * 12)).block, (ad212.add ((x4_1).toNat * 12)).off + 4, none⟩ = some (.int .i64 ((rd_T30 l0 x4_1).f2.f1)) ∧ w'.cell? ⟨(ad212.add ((x4_1).toNat * 12)).block, (ad212.add ((x4_1).toNat * 12)).off + 5, none⟩ = some (.int .i64 ((rd_T30 l0 x4_1).f3.f0)) ∧ w'.cell? ⟨(ad212.add ((x4_1).toNat * 12)).block, (ad212.add ((x4_1).toNat * 12)).off + 6, none⟩ = some (.int .i64 ((rd_T30 l0 x4_1).f3.f1)) ∧ w'.cell? ⟨(ad212.add ((x4_1).toNat * 12)).block, (ad212.add ((x4_1).toNat * 12)).off + 7, none⟩ = some (.int .i64 ((rd_T30 l0 x4_1).f4.f0)) ∧ w'.cell? ⟨(ad212.add ((x4_1).toNat * 12)).block, (ad212.add ((x4_1).toNat * 12)).off + 8, none⟩ = some (.int .i64 ((rd_T30 l0 x4_1).f4.f1)) ∧ w'.cell? ⟨(ad212.add ((x4_1).toNat * 12)).block, (ad212.add ((x4_1).toNat * 12)).off + 9, none⟩ = some (.int .i64 ((rd_T30 l0 x4_1).f5)) ∧ w'.cell? ⟨(ad212.add ((x4_1).toNat * 12)).block, (ad212.add ((x4_1).toNat * 12)).off + 10, none⟩ = some (.bool ((rd_T30 l0 x4_1).f6)) ∧ w'.cell? ⟨(ad212.add ((x4_1).toNat * 12)).block, (ad212.add ((x4_1).toNat * 12)).off + 11, none⟩ = some (.string ((rd_T30 l0 x4_1).f7)) ∧ w'.cell? (ad214.add (((rd_T30 l0 x4_1).f0.f1)).toNat) = some (.int .i64 (rd x3_1 ((rd_T30 l0 x4_1).f0.f1)))) (ds := []) #[false, false, false, false, false, false, false, false, false, false, false, false, false, false, false, false] (by kernel_rfl) rfl rfl ⟨((HB.out.cell (World.block_lt_of_cell? w _ hw212_0)).trans hw212_0), ((HB.out.cell (World.block_lt_of_cell? w _ hw212_1)).trans hw212_1), ((HB.out.cell (World.block_lt_of_cell? w _ hw212_2)).trans hw212_2), ((HB.out.cell (World.block_lt_of_cell? w _ hw212_3)).trans hw212_3), ((HB.out.cell (World.block_lt_of_cell? w _ hw212_4)).trans hw212_4), ((HB.out.cell (World.block_lt_of_cell? w _ hw212_5)).trans hw212_5), ((HB.out.cell (World.block_lt_of_cell? w _ hw212_6)).trans hw212_6), ((HB.out.cell (World.block_lt_of_cell? w _ hw212_7)).trans hw212_7), ((HB.out.cell (World.block_lt_of_cell? w _ hw212_8)).trans hw212_8), ((HB.out.cell (World.block_lt_of_cell? w _ hw212_9)).trans hw212_9), ((HB.out.cell (World.block_lt_of_cell? w _ hw212_10)).trans hw212_10), ((HB.out.cell (World.block_lt_of_cell? w _ hw212_11)).trans hw212_11), ((HB.out.cell (World.block_lt_of_cell? w _ hw213_0)).trans hw213_0), ((HB.out.cell (World.block_lt_of_cell? w _ hw213_1)).trans hw213_1), ((HB.out.cell (World.block_lt_of_cell? w _ hw213_2)).trans hw213_2), ((HB.out.cell (World.block_lt_of_cell? w _ hw213_3)).trans hw213_3), ((HB.out.cell (World.block_lt_of_cell? w _ hw213_4)).trans hw213_4), ((HB.out.cell (World.block_lt_of_cell? w _ hw213_5)).trans hw213_5), ((HB.out.cell (World.block_lt_of_cell? w _ hw213_6)).trans hw213_6), ((HB.out.cell (World.block_lt_of_cell? w _ hw213_7)).trans hw213_7), ((HB.out.cell (World.block_lt_of_cell? w _ hw213_8)).trans hw213_8), ((HB.out.cell (World.block_lt_of_cell? w _ hw213_9)).trans hw213_9), ((HB.out.cell (World.block_lt_of_cell? w _ hw213_10)).trans hw213_10), ((HB.out.cell (World.block_lt_of_cell? w _ hw213_11)).trans hw213_11), hx214_0⟩ (fun hHeld => ?_); refine with_tabW spec_logVector.tab5 spec_logVector.bits5 (fun HT_ HW_ => ?_)
                  generalize wr.drew = w15 at HO_3 HB hx212_0 hx212_1 hx212_10 hx212_11 hx212_2 hx212_3 hx212_4 hx212_5 hx212_6 hx212_7 hx212_8 hx212_9 hx213_0 hx213_1 hx213_10 hx213_11 hx213_2 hx213_3 hx213_4 hx213_5 hx213_6 hx213_7 hx213_8 hx213_9 hx214_0 hHeld ⊢
                  refine pure_ (i := 0) (N := some 12) (v := ?_) (a' := ?_) #[true, false, false, false, false, false, false, false, false, false, false, false, false, false, false, false] rfl rfl (any_of HT_.out (by kernel_rfl)) (fun _ _ _ h => h) (Or.inl ⟨by rfl, ?_⟩) ?_ ?_
                  rotate_left
                  · intro w'
                    go_simp
                    with_reducible rfl
                  rotate_left
                  · simp only [Act.put, List.setIfInBounds_toArray, List.set_cons_zero, List.set_cons_succ, i64_w, i32_w]
                    rfl
                  refine pure_ (i := 1) (N := some 13) (v := ?_) (a' := ?_) #[true, true, false, false, false, false, false, false, false, false, false, false, false, false, false, false] rfl rfl (any_of HT_.out (by kernel_rfl)) (fun _ _ _ h => h) (Or.inl ⟨by rfl, ?_⟩) ?_ ?_
                  rotate_left
                  · intro w'
                    go_simp
                    with_reducible rfl
                  rotate_left
                  · simp only [Act.put, List.setIfInBounds_toArray, List.set_cons_zero, List.set_cons_succ, i64_w, i32_w]
                    rfl
                  refine pure_ (i := 2) (N := some 14) (v := ?_) (a' := ?_) #[true, true, true, false, false, false, false, false, false, false, false, false, false, false, false, false] rfl rfl (any_of HT_.out (by kernel_rfl)) (fun _ _ _ h => h) (Or.inl ⟨by rfl, ?_⟩) ?_ ?_
                  rotate_left
                  · intro w'
                    go_simp
                    with_reducible rfl
                  rotate_left
                  · simp only [Act.put, List.setIfInBounds_toArray, List.set_cons_zero, List.set_cons_succ, i64_w, i32_w]
                    rfl
                  refine pure_ (i := 3) (N := some 15) (v := ?_) (a' := ?_) #[true, true, true, true, false, false, false, false, false, false, false, false, false, false, false, false] rfl rfl (any_of HT_.out (by kernel_rfl)) (fun _ _ _ h => h) (Or.inl ⟨by rfl, ?_⟩) ?_ ?_
                  rotate_left
                  · intro w'
                    go_simp
                    with_reducible rfl
                  rotate_left
                  · simp only [Act.put, List.setIfInBounds_toArray, List.set_cons_zero, List.set_cons_succ, i64_w, i32_w]
                    rfl
                  refine pure_ (i := 4) (N := some 16) (v := ?_) (a' := ?_) #[true, true, true, true, true, false, false, false, false, false, false, false, false, false, false, false] rfl rfl (any_of HT_.out (by kernel_rfl)) (fun _ _ _ h => h) (Or.inl ⟨by rfl, ?_⟩) ?_ ?_
                  rotate_left
                  · intro w'
                    go_simp
                    with_reducible rfl
                  rotate_left
                  · simp only [Act.put, List.setIfInBounds_toArray, List.set_cons_zero, List.set_cons_succ, i64_w, i32_w]
                    rfl
                  refine pure_ (i := 6) (N := some 18) (v := ?_) (a' := ?_) #[true, true, true, true, true, false, true, false, false, false, false, false, false, false, false, false] rfl rfl (any_of HT_.out (by kernel_rfl)) (fun _ _ _ h => h) (Or.inl ⟨by rfl, ?_⟩) ?_ ?_
                  rotate_left
                  · intro w'
                    go_simp
                    with_reducible rfl
                  rotate_left
                  · simp only [Act.put, List.setIfInBounds_toArray, List.set_cons_zero, List.set_cons_succ, i64_w, i32_w]
                    rfl
                  refine pure_ (i := 7) (N := some 19) (v := ?_) (a' := ?_) #[true, true, true, true, true, false, true, true, false, false, false, false, false, false, false, false] rfl rfl (any_of HT_.out (by kernel_rfl)) (fun _ _ _ h => h) (Or.inl ⟨by rfl, ?_⟩) ?_ ?_
                  rotate_left
                  · intro w'
                    go_simp
                    with_reducible rfl
                  rotate_left
                  · simp only [Act.put, List.setIfInBounds_toArray, List.set_cons_zero, List.set_cons_succ, i64_w, i32_w]
                    rfl
                  refine pure_ (i := 8) (N := some 20) (v := ?_) (a' := ?_) #[true, true, true, true, true, false, true, true, true, false, false, false, false, false, false, false] rfl rfl (any_of HT_.out (by kernel_rfl)) (fun _ _ _ h => h) (Or.inl ⟨by rfl, ?_⟩) ?_ ?_
                  rotate_left
                  · intro w'
                    go_simp
                    with_reducible rfl
                  rotate_left
                  · simp only [Act.put, List.setIfInBounds_toArray, List.set_cons_zero, List.set_cons_succ, i64_w, i32_w]
                    rfl
                  refine pure_ (i := 9) (N := some 21) (v := ?_) (a' := ?_) #[true, true, true, true, true, false, true, true, true, true, false, false, false, false, false, false] rfl rfl (any_of HT_.out (by kernel_rfl)) (fun _ _ _ h => h) (Or.inl ⟨by rfl, ?_⟩) ?_ ?_
                  rotate_left
                  · intro w'
                    go_simp
                    with_reducible rfl
                  rotate_left
                  · simp only [Act.put, List.setIfInBounds_toArray, List.set_cons_zero, List.set_cons_succ, i64_w, i32_w]
                    rfl
                  refine pure_ (i := 10) (N := some 22) (v := ?_) (a' := ?_) #[true, true, true, true, true, false, true, true, true, true, true, false, false, false, false, false] rfl rfl (any_of HT_.out (by kernel_rfl)) (fun _ _ _ h => h) (Or.inl ⟨by rfl, ?_⟩) ?_ ?_
                  rotate_left
                  · intro w'
                    go_simp
                    with_reducible rfl
                  rotate_left
                  · simp only [Act.put, List.setIfInBounds_toArray, List.set_cons_zero, List.set_cons_succ, i64_w, i32_w]
                    rfl
                  refine pure_ (i := 11) (N := some 23) (v := ?_) (a' := ?_) #[true, true, true, true, true, false, true, true, true, true, true, true, false, false, false, false] rfl rfl (any_of HT_.out (by kernel_rfl)) (fun _ _ _ h => h) (Or.inl ⟨by rfl, ?_⟩) ?_ ?_
                  rotate_left
                  · intro w'
                    go_simp
                    with_reducible rfl
                  rotate_left
                  · simp only [Act.put, List.setIfInBounds_toArray, List.set_cons_zero, List.set_cons_succ, i64_w, i32_w]
                    rfl
                  refine take_ (i := 5) (N := some 17) (v := ?_) (a' := ?_) #[true, true, true, true, true, true, true, true, true, true, true, true, false, false, false, false] rfl rfl (take_ofW HT_.out HW_.out (by kernel_rfl)) (fun _ _ _ h => h) (Or.inl ⟨by rfl, ?_⟩) hHeld ?_ ?_
                  rotate_left
                  · rintro w' ⟨s0, s1, s2, s3, s4, s5, s6, s7, s8, s9, s10, s11, s12, s13, s14, s15, s16, s17, s18, s19, s20, s21, s22, s23, s24⟩
                    go_simp
                    with_reducible rfl
                  rotate_left
                  · simp only [Act.put, List.setIfInBounds_toArray, List.set_cons_zero, List.set_cons_succ, i64_w, i32_w]
                    rfl
                  refine take_ (i := 12) (N := some 24) (v := ?_) (a' := ?_) #[true, true, true, true, true, true, true, true, true, true, true, true, true, false, false, false] rfl rfl (take_ofW HT_.out HW_.out (by kernel_rfl)) (fun _ _ _ h => h) (Or.inl ⟨by rfl, ?_⟩) hHeld ?_ ?_
                  rotate_left
                  · rintro w' ⟨s0, s1, s2, s3, s4, s5, s6, s7, s8, s9, s10, s11, s12, s13, s14, s15, s16, s17, s18, s19, s20, s21, s22, s23, s24⟩
                    go_simp
                    with_reducible rfl
                  rotate_left
                  · simp only [Act.put, List.setIfInBounds_toArray, List.set_cons_zero, List.set_cons_succ, i64_w, i32_w]
                    rfl
                  refine pure_ (i := 13) (N := some 25) (v := ?_) (a' := ?_) #[true, true, true, true, true, true, true, true, true, true, true, true, true, true, false, false] rfl rfl (any_of HT_.out (by kernel_rfl)) (fun _ _ _ h => h) (Or.inl ⟨by rfl, ?_⟩) ?_ ?_
                  rotate_left
                  · intro w'
                    go_simp
                    with_reducible rfl
                  rotate_left
                  · simp only [Act.put, List.setIfInBounds_toArray, List.set_cons_zero, List.set_cons_succ, i64_w, i32_w]
                    rfl
                  refine take_ (i := 14) (N := some 26) (v := ?_) (a' := ?_) #[true, true, true, true, true, true, true, true, true, true, true, true, true, true, true, false] rfl rfl (take_ofW HT_.out HW_.out (by kernel_rfl)) (fun _ _ _ h => h) (Or.inl ⟨by rfl, ?_⟩) hHeld ?_ ?_
                  rotate_left
                  · rintro w' ⟨s0, s1, s2, s3, s4, s5, s6, s7, s8, s9, s10, s11, s12, s13, s14, s15, s16, s17, s18, s19, s20, s21, s22, s23, s24⟩
                    go_simp
                    with_reducible rfl
                  rotate_left
                  · simp only [Act.put, List.setIfInBounds_toArray, List.set_cons_zero, List.set_cons_succ, i64_w, i32_w]
                    rfl
                  refine pure_ (i := 15) (N := some 27) (v := ?_) (a' := ?_) #[true, true, true, true, true, true, true, true, true, true, true, true, true, true, true, true] rfl rfl (any_of HT_.out (by kernel_rfl)) (fun _ _ _ h => h) (Or.inl ⟨by rfl, ?_⟩) ?_ ?_
                  rotate_left
                  · intro w'
                    go_simp
                    with_reducible rfl
                  rotate_left
                  · simp only [Act.put, List.setIfInBounds_toArray, List.set_cons_zero, List.set_cons_succ, i64_w, i32_w]
                    rfl
                  refine done_ (done_of HT_.out (by kernel_rfl)) ?_
                  try go_wp2
                  go_roundg k1
                  case measure => have := HK1.out; omega
                  case rel => exact ⟨(x3_1), (wrap64 (x4_1 + 1)), (by first | rfl | (simp; done) | (simp [*]; done)), H', ⟨by have := HK1.out; omega⟩, ⟨by (with_reducible repeat (first | apply Kd.R_alloc | apply Kd.R_drewN | apply Kd.R_drew)); exact HO_3.out⟩, ⟨by repeat (first | (with_reducible first | exact HB.out | apply below_alloc | apply pw_below_drewN | apply below_drew1) | exact HB.out)⟩⟩
              · rw [if_neg c8] at H
                exact absurd H (by simp)
            · rw [if_neg c7] at H
              exact absurd H (by simp)
          · rw [if_neg c6] at H
            exact absurd H (by simp)
        · rw [if_neg c5] at H
          have c5b0 : decide (x4_1 < (l0.length : Int)) = false := decide_eq_false c5
          clear c5
          obtain rfl := Option.some.inj H
          go_wp2
          go_ret
          exact ⟨_, by first | rfl | (simp [errW_none, errW_some] <;> rfl) | (simp [*, errW_none, errW_some] <;> rfl), by (with_reducible repeat (first | apply Kd.R_alloc | apply Kd.R_drewN | apply Kd.R_drew)); exact HO_3.out, by repeat (first | (with_reducible first | exact HB.out | apply below_alloc | apply pw_below_drewN | apply below_drew1) | exact HB.out)⟩
  · rw [if_neg c2] at H
    exact absurd H (by simp)

end Go.Proofs.Ytomigiindmojkaa.QL

/- A call of each function named here does what the Lean function of that name says. Conditions: each theorem's premises. Printed by the kit, repaired by a program, joined with texts by hand. -/
import Derived.Test.YtomigiindmojkaaQJx0
import Derived.Test.YtomigiindmojkaaQJx6
namespace Go.Proofs.Ytomigiindmojkaa.QJ
open Go.Proofs.Ytomigiindmojkaa.Base Go.RowKit Go.Proofs.YtomigiindmojkaaW.PrintWords Go.Proofs.YtomigiindmojkaaW.PrintLast Go.Proofs.YtomigiindmojkaaW.PrintMore
attribute [local go_sem] max2_int min2_int max_two min_two max_three min_three max_four min_four   -- for this text's walks alone
set_option linter.unusedVariables false
set_option linter.unusedSimpArgs false

def qx7_0 : Array Bool := #[false, false, false, false, false, false, false, false, false, false]
def qx7_1 : Array Bool := #[true, false, false, false, false, false, false, false, false, false]
def qx7_2 : Array Bool := #[true, true, false, false, false, false, false, false, false, false]
def qx7_3 : Array Bool := #[true, true, true, false, false, false, false, false, false, false]
def qx7_4 : Array Bool := #[true, true, true, false, true, false, false, false, false, false]
def qx7_5 : Array Bool := #[true, true, true, false, true, true, false, false, false, false]
def qx7_6 : Array Bool := #[true, true, true, false, true, true, true, false, false, false]
def qx7_7 : Array Bool := #[true, true, true, true, true, true, true, false, false, false]
def qx7_8 : Array Bool := #[true, true, true, true, true, true, true, true, false, false]
def qx7_9 : Array Bool := #[true, true, true, true, true, true, true, true, true, false]
def qx7_10 : Array Bool := #[true, true, true, true, true, true, true, true, true, true]
/-! ### laws_eqOpS: function 19 -/
def laws_eqOpS.l0 : Nat → List (S30) → List (S30) → Int → Option (Bool)
 | 0, _, _, _ => none
 | k + 1, x0, x1, x5 => if x5 < (x0.length : Int) then (if 0 ≤ x5 then (if x5 < (x1.length : Int) then ((laws_eqOp.f ((rd_T30 x0 x5).f0.f0) ((rd_T30 x0 x5).f0.f1) ((rd_T30 x0 x5).f1) ((rd_T30 x0 x5).f2.f0) ((rd_T30 x0 x5).f2.f1) ((rd_T30 x0 x5).f3.f0) ((rd_T30 x0 x5).f3.f1) ((rd_T30 x0 x5).f4.f0) ((rd_T30 x0 x5).f4.f1) ((rd_T30 x0 x5).f5) ((rd_T30 x0 x5).f6) ((rd_T30 x0 x5).f7) ((rd_T30 x1 x5).f0.f0) ((rd_T30 x1 x5).f0.f1) ((rd_T30 x1 x5).f1) ((rd_T30 x1 x5).f2.f0) ((rd_T30 x1 x5).f2.f1) ((rd_T30 x1 x5).f3.f0) ((rd_T30 x1 x5).f3.f1) ((rd_T30 x1 x5).f4.f0) ((rd_T30 x1 x5).f4.f1) ((rd_T30 x1 x5).f5) ((rd_T30 x1 x5).f6) ((rd_T30 x1 x5).f7)).bind fun t139 => (if t139 = true then (laws_eqOpS.l0 k x0 x1 (wrap64 (x5 + 1))) else (some false))) else (none)) else (none)) else (some true)
def laws_eqOpS.f (k : Nat) (l0 : List (S30)) (l1 : List (S30)) : Option (Bool) := if (l0.length : Int) = (l1.length : Int) then (laws_eqOpS.l0 k l0 l1 0) else (some false)
theorem laws_eqOpS.mono_l : ∀ k, (∀ y0 y1 y2, LeO (laws_eqOpS.l0 k y0 y1 y2) (laws_eqOpS.l0 (k + 1) y0 y1 y2))
 | 0 => fun _ _ _ r h => by simp [laws_eqOpS.l0] at h
 | k + 1 => by
  have ih0 := laws_eqOpS.mono_l k
  ·intro y0 y1 y2
   unfold laws_eqOpS.l0
   repeat' first
   | (with_reducible exact ih0 _ _ _)
   | (with_reducible exact LeO.refl _)
   | (with_reducible exact LeO.none _)
   | (with_reducible refine LeO.ite ?_ ?_)
   | (with_reducible refine LeO.bind ?_ (fun _ => ?_))
theorem laws_eqOpS.mono : ∀ a0 a1 k, LeO (laws_eqOpS.f k a0 a1) (laws_eqOpS.f (k + 1) a0 a1) := by
 intro a0 a1 k
 have ih0 := laws_eqOpS.mono_l k
 unfold laws_eqOpS.f
 repeat' first
   | (with_reducible exact ih0 _ _ _)
   | (with_reducible exact LeO.refl _)
   | (with_reducible exact LeO.none _)
   | (with_reducible refine LeO.ite ?_ ?_)
   | (with_reducible refine LeO.bind ?_ (fun _ => ?_))
def laws_eqOpS.T6 : Bool × List (List Nat × List Nat) := (true, [([], []), ([], []), ([0, 1], [0, 1]), ([2], [2]), ([], []), ([], []), ([4, 5], [4, 5]), ([6], [6]), ([3, 7], [3, 7]), ([8], [8])])
def laws_eqOpS.B6 : List Nat := [0, 0, 3, 7, 0, 0, 48, 112, 255, 511]
theorem laws_eqOpS.tab6 : rtab .any (opsOf Try.f19 6) = laws_eqOpS.T6 := by kernel_rfl
theorem laws_eqOpS.bits6 : waitsOk laws_eqOpS.T6.2 laws_eqOpS.B6 = true := by kernel_rfl
set_option maxHeartbeats 8000000 in
set_option maxRecDepth 100000 in
theorem laws_eqOpS.calls (k : Nat) (A0 : Option Addr) (c0 : Nat) (l0 : List (S30)) (A1 : Option Addr) (c1 : Nat) (l1 : List (S30)) (r : Bool) (w : World) (hr0 : Kd.C k30 w A0 l0.length l0) (hc0 : l0.length ≤ c0) (hr1 : Kd.C k30 w A1 l1.length l1) (hc1 : l1.length ≤ c1) (h : laws_eqOpS.f k l0 l1 = some r) :
  Calls Try.prog 19 #[.slice A0 l0.length c0, .slice A1 l1.length c1] w fun e w' => e = .returned (.bool r) ∧ Below w.heap.size w w' := by
 have hu30 := Try.underlying30
 have HR0 := am hr0
 have HC0 := am hc0
 clear hr0 hc0
 have HR1 := am hr1
 have HC1 := am hc1
 clear hr1 hc1
 have HB := am (Below.refl w.heap.size w)
 have H : (if (l0.length : Int) = (l1.length : Int) then (laws_eqOpS.l0 k l0 l1 0) else (some false)) = some r := h
 clear h
 by_cases c3 : (l0.length : Int) = (l1.length : Int)
 ·rw [if_pos c3] at H
  have c3b0 : ((l0.length : Int) == (l1.length : Int)) = true := beq_iff_eq.mpr c3
  have c3b1 : ((l0.length : Int) != (l1.length : Int)) = false := bne_eq_false_iff_eq.mpr c3
  have c3b2 : (l0.length == l1.length) = true := by first | simpa using c3 | (simp at c3 ⊢; omega)
  clear c3
  have H' := am H
  clear H
  go_enter Try.func19, Try.ntmps19
  go_wp2
  go_loopg [5] k (fun kq v5 w' => ∃ (x5_1 : Int), v5 = .int .i64 x5_1 ∧ Aside0 (laws_eqOpS.l0 kq l0 l1 x5_1 = some r) ∧ Aside0 (kq ≤ k) ∧ Aside0 (Below w.heap.size w w'))
  case atStart => exact ⟨(0), (by first | rfl | (simp; done) | (simp [*]; done)), H', ⟨Nat.le_refl _⟩, ⟨by repeat (first | (with_reducible first | exact HB.out | apply below_alloc | apply pw_below_drewN | apply below_drew1) | exact HB.out)⟩⟩
  case round =>
   clear H'
   try clear c1
   try clear p2
   try clear c3
   try clear c3b0
   try clear c3b1
   try clear c3b2
   obtain ⟨x5_1, rfl, HA, HK1, HB⟩ := hrel
   cases gk with
   | zero => exact absurd HA.out (by simp [laws_eqOpS.l0])
   | succ k1 =>
    have H := HA.out
    clear HA
    simp only [laws_eqOpS.l0] at H
    by_cases c4 : x5_1 < (l0.length : Int)
    ·rw [if_pos c4] at H
     have c4b0 : decide (x5_1 < (l0.length : Int)) = true := decide_eq_true c4
     clear c4
     by_cases c5 : 0 ≤ x5_1
     ·rw [if_pos c5] at H
      have c5b0 : decide (0 ≤ x5_1) = true := decide_eq_true c5
      clear c5
      by_cases c6 : x5_1 < (l1.length : Int)
      ·rw [if_pos c6] at H
       have c6b0 : decide (x5_1 < (l1.length : Int)) = true := decide_eq_true c6
       clear c6
       replace H := Option.bind_eq_some_iff.mp H
       obtain ⟨t139, A70, H⟩ := H
       replace H : (if t139 = true then (laws_eqOpS.l0 k1 l0 l1 (wrap64 (x5_1 + 1))) else (some false)) = some r := H
       have A7 := am A70
       clear A70
       by_cases c8 : t139 = true
       ·subst c8
        have H1 : (laws_eqOpS.l0 k1 l0 l1 (wrap64 (x5_1 + 1))) = some r := by rw [if_pos rfl] at H; exact H
        clear H
        have H := H1
        clear H1
        have H' := am H
        clear H
        try go_wp2
        have n0_ := am (below_drew1 HB.out)
        clear HB
        have HB := n0_
        clear n0_
        have p137 : 0 ≤ (x5_1 : Int) := of_decide_eq_true (by first | (with_reducible assumption) | assumption)
        have q137 : x5_1 < (l0.length : Int) := of_decide_eq_true (by first | (with_reducible assumption) | assumption)
        obtain ⟨ad137, e137, hx137_0, hx137_1, hx137_2, hx137_3, hx137_4, hx137_5, hx137_6, hx137_7, hx137_8, hx137_9, hx137_10, hx137_11⟩ := at_T30 HR0.out x5_1 p137 q137
        have hw137_11 := hx137_11
        have hw137_10 := hx137_10
        have hw137_9 := hx137_9
        have hw137_8 := hx137_8
        have hw137_7 := hx137_7
        have hw137_6 := hx137_6
        have hw137_5 := hx137_5
        have hw137_4 := hx137_4
        have hw137_3 := hx137_3
        have hw137_2 := hx137_2
        have hw137_1 := hx137_1
        have hw137_0 := hx137_0
        cases e137
        replace hx137_0 := cellUp HB.out hx137_0
        replace hx137_1 := cellUp HB.out hx137_1
        replace hx137_2 := cellUp HB.out hx137_2
        replace hx137_3 := cellUp HB.out hx137_3
        replace hx137_4 := cellUp HB.out hx137_4
        replace hx137_5 := cellUp HB.out hx137_5
        replace hx137_6 := cellUp HB.out hx137_6
        replace hx137_7 := cellUp HB.out hx137_7
        replace hx137_8 := cellUp HB.out hx137_8
        replace hx137_9 := cellUp HB.out hx137_9
        replace hx137_10 := cellUp HB.out hx137_10
        replace hx137_11 := cellUp HB.out hx137_11
        replace p137 := eq_true p137
        replace q137 := eq_true q137
        have p138 : 0 ≤ (x5_1 : Int) := of_decide_eq_true (by first | (with_reducible assumption) | assumption)
        have q138 : x5_1 < (l1.length : Int) := of_decide_eq_true (by first | (with_reducible assumption) | assumption)
        obtain ⟨ad138, e138, hx138_0, hx138_1, hx138_2, hx138_3, hx138_4, hx138_5, hx138_6, hx138_7, hx138_8, hx138_9, hx138_10, hx138_11⟩ := at_T30 HR1.out x5_1 p138 q138
        have hw138_11 := hx138_11
        have hw138_10 := hx138_10
        have hw138_9 := hx138_9
        have hw138_8 := hx138_8
        have hw138_7 := hx138_7
        have hw138_6 := hx138_6
        have hw138_5 := hx138_5
        have hw138_4 := hx138_4
        have hw138_3 := hx138_3
        have hw138_2 := hx138_2
        have hw138_1 := hx138_1
        have hw138_0 := hx138_0
        cases e138
        replace hx138_0 := cellUp HB.out hx138_0
        replace hx138_1 := cellUp HB.out hx138_1
        replace hx138_2 := cellUp HB.out hx138_2
        replace hx138_3 := cellUp HB.out hx138_3
        replace hx138_4 := cellUp HB.out hx138_4
        replace hx138_5 := cellUp HB.out hx138_5
        replace hx138_6 := cellUp HB.out hx138_6
        replace hx138_7 := cellUp HB.out hx138_7
        replace hx138_8 := cellUp HB.out hx138_8
        replace hx138_9 := cellUp HB.out hx138_9
        replace hx138_10 := cellUp HB.out hx138_10
        replace hx138_11 := cellUp HB.out hx138_11
        replace p138 := eq_true p138
        replace q138 := eq_true q138
        refine start_ (n := 10) (S := fun w' => w'.cell? (ad137.add ((x5_1).toNat * 12)) = some (.int .i64 ((rd_T30 l0 x5_1).f0.f0)) ∧ w'.cell? ⟨(ad137.add ((x5_1).toNat * 12)).block, (ad137.add ((x5_1).toNat * 12)).off + 1, none⟩ = some (.int .i64 ((rd_T30 l0 x5_1).f0.f1)) ∧ w'.cell? ⟨(ad137.add ((x5_1).toNat * 12)).block, (ad137.add ((x5_1).toNat * 12)).off + 2, none⟩ = some (.int .i64 ((rd_T30 l0 x5_1).f1)) ∧ w'.cell? ⟨(ad137.add ((x5_1).toNat * 12)).block, (ad137.add ((x5_1).toNat * 12)).off + 3, none⟩ = some (.int .i64 ((rd_T30 l0 x5_1).f2.f0)) ∧ w'.cell? ⟨(ad137.add ((x5_1).toNat * 12)).block, (ad137.add ((x5_1).toNat * 12)).off + 4, none⟩ = some (.int .i64 ((rd_T30 l0 x5_1).f2.f1)) ∧ w'.cell? ⟨(ad137.add ((x5_1).toNat * 12)).block, (ad137.add ((x5_1).toNat * 12)).off + 5, none⟩ = some (.int .i64 ((rd_T30 l0 x5_1).f3.f0)) ∧ w'.cell? ⟨(ad137.add ((x5_1).toNat * 12)).block, (ad137.add ((x5_1).toNat * 12)).off + 6, none⟩ = some (.int .i64 ((rd_T30 l0 x5_1).f3.f1)) ∧ w'.cell? ⟨(ad137.add ((x5_1).toNat * 12)).block, (ad137.add ((x5_1).toNat * 12)).off + 7, none⟩ = some (.int .i64 ((rd_T30 l0 x5_1).f4.f0)) ∧ w'.cell? ⟨(ad137.add ((x5_1).toNat * 12)).block, (ad137.add ((x5_1).toNat * 12)).off + 8, none⟩ = some (.int .i64 ((rd_T30 l0 x5_1).f4.f1)) ∧ w'.cell? ⟨(ad137.add ((x5_1).toNat * 12)).block, (ad137.add ((x5_1).toNat * 12)).off + 9, none⟩ = some (.int .i64 ((rd_T30 l0 x5_1).f5)) ∧ w'.cell? ⟨(ad137.add ((x5_1).toNat * 12)).block, (ad137.add ((x5_1).toNat * 12)).off + 10, none⟩ = some (.bool ((rd_T30 l0 x5_1).f6)) ∧ w'.cell? ⟨(ad137.add ((x5_1).toNat * 12)).block, (ad137.add ((x5_1).toNat * 12)).off + 11, none⟩ = some (.string ((rd_T30 l0 x5_1).f7)) ∧ w'.cell? (ad138.add ((x5_1).toNat * 12)) = some (.int .i64 ((rd_T30 l1 x5_1).f0.f0)) ∧ w'.cell? ⟨(ad138.add ((x5_1).toNat * 12)).block, (ad138.add ((x5_1).toNat * 12)).off + 1, none⟩ = some (.int .i64 ((rd_T30 l1 x5_1).f0.f1)) ∧ w'.cell? ⟨(ad138.add ((x5_1).toNat * 12)).block, (ad138.add ((x5_1).toNat * 12)).off + 2, none⟩ = some (.int .i64 ((rd_T30 l1 x5_1).f1)) ∧ w'.cell? ⟨(ad138.add ((x5_1).toNat * 12)).block, (ad138.add ((x5_1).toNat * 12)).off + 3, none⟩ = some (.int .i64 ((rd_T30 l1 x5_1).f2.f0)) ∧ w'.cell? ⟨(ad138.add ((x5_1).toNat * 12)).block, (ad138.add ((x5_1).toNat * 12)).off + 4, none⟩ = some (.int .i64 ((rd_T30 l1 x5_1).f2.f1)) ∧ w'.cell? ⟨(ad138.add ((x5_1).toNat * 12)).block, (ad138.add ((x5_1).toNat * 12)).off + 5, none⟩ = some (.int .i64 ((rd_T30 l1 x5_1).f3.f0)) ∧ w'.cell? ⟨(ad138.add ((x5_1).toNat * 12)).block, (ad138.add ((x5_1).toNat * 12)).off + 6, none⟩ = some (.int .i64 ((rd_T30 l1 x5_1).f3.f1)) ∧ w'.cell? ⟨(ad138.add ((x5_1).toNat * 12)).block, (ad138.add ((x5_1).toNat * 12)).off + 7, none⟩ = some (.int .i64 ((rd_T30 l1 x5_1).f4.f0)) ∧ w'.cell? ⟨(ad138.add ((x5_1).toNat * 12)).block, (ad138.add ((x5_1).toNat * 12)).off + 8, none⟩ = some (.int .i64 ((rd_T30 l1 x5_1).f4.f1)) ∧ w'.cell? ⟨(ad138.add ((x5_1).toNat * 12)).block, (ad138.add ((x5_1).toNat * 12)).off + 9, none⟩ = some (.int .i64 ((rd_T30 l1 x5_1).f5)) ∧ w'.cell? ⟨(ad138.add ((x5_1).toNat * 12)).block, (ad138.add ((x5_1).toNat * 12)).off + 10, none⟩ = some (.bool ((rd_T30 l1 x5_1).f6)) ∧ w'.cell? ⟨(ad138.add ((x5_1).toNat * 12)).block, (ad138.add ((x5_1).toNat * 12)).off + 11, none⟩ = some (.string ((rd_T30 l1 x5_1).f7))) (ds := []) qx7_0 (by kernel_rfl) rfl rfl ⟨((HB.out.cell (World.block_lt_of_cell? w _ hw137_0)).trans hw137_0), ((HB.out.cell (World.block_lt_of_cell? w _ hw137_1)).trans hw137_1), ((HB.out.cell (World.block_lt_of_cell? w _ hw137_2)).trans hw137_2), ((HB.out.cell (World.block_lt_of_cell? w _ hw137_3)).trans hw137_3), ((HB.out.cell (World.block_lt_of_cell? w _ hw137_4)).trans hw137_4), ((HB.out.cell (World.block_lt_of_cell? w _ hw137_5)).trans hw137_5), ((HB.out.cell (World.block_lt_of_cell? w _ hw137_6)).trans hw137_6), ((HB.out.cell (World.block_lt_of_cell? w _ hw137_7)).trans hw137_7), ((HB.out.cell (World.block_lt_of_cell? w _ hw137_8)).trans hw137_8), ((HB.out.cell (World.block_lt_of_cell? w _ hw137_9)).trans hw137_9), ((HB.out.cell (World.block_lt_of_cell? w _ hw137_10)).trans hw137_10), ((HB.out.cell (World.block_lt_of_cell? w _ hw137_11)).trans hw137_11), ((HB.out.cell (World.block_lt_of_cell? w _ hw138_0)).trans hw138_0), ((HB.out.cell (World.block_lt_of_cell? w _ hw138_1)).trans hw138_1), ((HB.out.cell (World.block_lt_of_cell? w _ hw138_2)).trans hw138_2), ((HB.out.cell (World.block_lt_of_cell? w _ hw138_3)).trans hw138_3), ((HB.out.cell (World.block_lt_of_cell? w _ hw138_4)).trans hw138_4), ((HB.out.cell (World.block_lt_of_cell? w _ hw138_5)).trans hw138_5), ((HB.out.cell (World.block_lt_of_cell? w _ hw138_6)).trans hw138_6), ((HB.out.cell (World.block_lt_of_cell? w _ hw138_7)).trans hw138_7), ((HB.out.cell (World.block_lt_of_cell? w _ hw138_8)).trans hw138_8), ((HB.out.cell (World.block_lt_of_cell? w _ hw138_9)).trans hw138_9), ((HB.out.cell (World.block_lt_of_cell? w _ hw138_10)).trans hw138_10), ((HB.out.cell (World.block_lt_of_cell? w _ hw138_11)).trans hw138_11)⟩ (fun hHeld => ?_); refine with_tabW laws_eqOpS.tab6 laws_eqOpS.bits6 (fun HT_ HW_ => ?_)
        generalize wr.drew = w9 at HB hx137_0 hx137_1 hx137_10 hx137_11 hx137_2 hx137_3 hx137_4 hx137_5 hx137_6 hx137_7 hx137_8 hx137_9 hx138_0 hx138_1 hx138_10 hx138_11 hx138_2 hx138_3 hx138_4 hx138_5 hx138_6 hx138_7 hx138_8 hx138_9 hHeld ⊢
        refine pure_ (i := 0) (N := some 17) (v := ?_) (a' := ?_) qx7_1 rfl rfl (any_of HT_.out (by kernel_rfl)) (fun _ _ _ h => h) (Or.inl ⟨by rfl, ?_⟩) ?_ ?_
        rotate_left
        ·intro w'
         go_simp
         with_reducible rfl
        rotate_left
        ·simp only [putS]
         rfl
        refine pure_ (i := 1) (N := some 18) (v := ?_) (a' := ?_) qx7_2 rfl rfl (any_of HT_.out (by kernel_rfl)) (fun _ _ _ h => h) (Or.inl ⟨by rfl, ?_⟩) ?_ ?_
        rotate_left
        ·intro w'
         go_simp
         with_reducible rfl
        rotate_left
        ·simp only [putS]
         rfl
        refine pure_ (i := 2) (N := some 19) (v := ?_) (a' := ?_) qx7_3 rfl rfl (any_of HT_.out (by kernel_rfl)) (fun _ _ _ h => h) (Or.inl ⟨by rfl, ?_⟩) ?_ ?_
        rotate_left
        ·intro w'
         go_simp
         with_reducible rfl
        rotate_left
        ·simp only [putS]
         rfl
        refine pure_ (i := 4) (N := some 21) (v := ?_) (a' := ?_) qx7_4 rfl rfl (any_of HT_.out (by kernel_rfl)) (fun _ _ _ h => h) (Or.inl ⟨by rfl, ?_⟩) ?_ ?_
        rotate_left
        ·intro w'
         go_simp
         with_reducible rfl
        rotate_left
        ·simp only [putS]
         rfl
        refine pure_ (i := 5) (N := some 22) (v := ?_) (a' := ?_) qx7_5 rfl rfl (any_of HT_.out (by kernel_rfl)) (fun _ _ _ h => h) (Or.inl ⟨by rfl, ?_⟩) ?_ ?_
        rotate_left
        ·intro w'
         go_simp
         with_reducible rfl
        rotate_left
        ·simp only [putS]
         rfl
        refine pure_ (i := 6) (N := some 23) (v := ?_) (a' := ?_) qx7_6 rfl rfl (any_of HT_.out (by kernel_rfl)) (fun _ _ _ h => h) (Or.inl ⟨by rfl, ?_⟩) ?_ ?_
        rotate_left
        ·intro w'
         go_simp
         with_reducible rfl
        rotate_left
        ·simp only [putS]
         rfl
        refine take_ (i := 3) (N := some 20) (v := ?_) (a' := ?_) qx7_7 rfl rfl (take_ofW HT_.out HW_.out (by kernel_rfl)) (fun _ _ _ h => h) (Or.inl ⟨by rfl, ?_⟩) hHeld ?_ ?_
        rotate_left
        ·rintro w' ⟨s0, s1, s2, s3, s4, s5, s6, s7, s8, s9, s10, s11, s12, s13, s14, s15, s16, s17, s18, s19, s20, s21, s22, s23⟩
         go_simp
         with_reducible rfl
        rotate_left
        ·simp only [putS]
         rfl
        refine take_ (i := 7) (N := some 24) (v := ?_) (a' := ?_) qx7_8 rfl rfl (take_ofW HT_.out HW_.out (by kernel_rfl)) (fun _ _ _ h => h) (Or.inl ⟨by rfl, ?_⟩) hHeld ?_ ?_
        rotate_left
        ·rintro w' ⟨s0, s1, s2, s3, s4, s5, s6, s7, s8, s9, s10, s11, s12, s13, s14, s15, s16, s17, s18, s19, s20, s21, s22, s23⟩
         go_simp
         with_reducible rfl
        rotate_left
        ·simp only [putS]
         rfl
        refine one_ (i := 8) (N := some 25) qx7_9 rfl rfl (one_of HT_.out (by kernel_rfl)) (by decide) (fun K hK => ?_)
        refine goes_ Try.func49 (by kernel_rfl) rfl #[.agg #[.int .i64 ((rd_T30 l0 x5_1).f0.f0), .int .i64 ((rd_T30 l0 x5_1).f0.f1), .int .i64 ((rd_T30 l0 x5_1).f1), .int .i64 ((rd_T30 l0 x5_1).f2.f0), .int .i64 ((rd_T30 l0 x5_1).f2.f1), .int .i64 ((rd_T30 l0 x5_1).f3.f0), .int .i64 ((rd_T30 l0 x5_1).f3.f1), .int .i64 ((rd_T30 l0 x5_1).f4.f0), .int .i64 ((rd_T30 l0 x5_1).f4.f1), .int .i64 ((rd_T30 l0 x5_1).f5), .bool ((rd_T30 l0 x5_1).f6), .string ((rd_T30 l0 x5_1).f7)], .agg #[.int .i64 ((rd_T30 l1 x5_1).f0.f0), .int .i64 ((rd_T30 l1 x5_1).f0.f1), .int .i64 ((rd_T30 l1 x5_1).f1), .int .i64 ((rd_T30 l1 x5_1).f2.f0), .int .i64 ((rd_T30 l1 x5_1).f2.f1), .int .i64 ((rd_T30 l1 x5_1).f3.f0), .int .i64 ((rd_T30 l1 x5_1).f3.f1), .int .i64 ((rd_T30 l1 x5_1).f4.f0), .int .i64 ((rd_T30 l1 x5_1).f4.f1), .int .i64 ((rd_T30 l1 x5_1).f5), .bool ((rd_T30 l1 x5_1).f6), .string ((rd_T30 l1 x5_1).f7)]] (by rfl) rfl rfl (by (try simp only [List.map_toArray, List.map_cons, List.map_nil]); first | done | rfl | (simp only [List.length_drop, List.length_take]; rfl)) ?_
        with_reducible refine (laws_eqOp.calls ((rd_T30 l0 x5_1).f0.f0) ((rd_T30 l0 x5_1).f0.f1) ((rd_T30 l0 x5_1).f1) ((rd_T30 l0 x5_1).f2.f0) ((rd_T30 l0 x5_1).f2.f1) ((rd_T30 l0 x5_1).f3.f0) ((rd_T30 l0 x5_1).f3.f1) ((rd_T30 l0 x5_1).f4.f0) ((rd_T30 l0 x5_1).f4.f1) ((rd_T30 l0 x5_1).f5) ((rd_T30 l0 x5_1).f6) ((rd_T30 l0 x5_1).f7) ((rd_T30 l1 x5_1).f0.f0) ((rd_T30 l1 x5_1).f0.f1) ((rd_T30 l1 x5_1).f1) ((rd_T30 l1 x5_1).f2.f0) ((rd_T30 l1 x5_1).f2.f1) ((rd_T30 l1 x5_1).f3.f0) ((rd_T30 l1 x5_1).f3.f1) ((rd_T30 l1 x5_1).f4.f0) ((rd_T30 l1 x5_1).f4.f1) ((rd_T30 l1 x5_1).f5) ((rd_T30 l1 x5_1).f6) ((rd_T30 l1 x5_1).f7) true _ A7.out).mono ?_
        rintro e w10 ⟨rfl, hb⟩
        refine ⟨_, rfl, ?_⟩
        have n0_ := am (below_step (by repeat (first | (with_reducible first | exact HB.out | apply below_alloc | apply pw_below_drewN | apply below_drew1) | exact HB.out)) hb)
        clear HB
        have HB := n0_
        clear n0_
        (try clear hb)
        (try clear hb2)
        (try clear hk)
        (try clear hi)
        refine hK.out _ _ ⟨((HB.out.cell (World.block_lt_of_cell? w _ hw137_0)).trans hw137_0), ((HB.out.cell (World.block_lt_of_cell? w _ hw137_1)).trans hw137_1), ((HB.out.cell (World.block_lt_of_cell? w _ hw137_2)).trans hw137_2), ((HB.out.cell (World.block_lt_of_cell? w _ hw137_3)).trans hw137_3), ((HB.out.cell (World.block_lt_of_cell? w _ hw137_4)).trans hw137_4), ((HB.out.cell (World.block_lt_of_cell? w _ hw137_5)).trans hw137_5), ((HB.out.cell (World.block_lt_of_cell? w _ hw137_6)).trans hw137_6), ((HB.out.cell (World.block_lt_of_cell? w _ hw137_7)).trans hw137_7), ((HB.out.cell (World.block_lt_of_cell? w _ hw137_8)).trans hw137_8), ((HB.out.cell (World.block_lt_of_cell? w _ hw137_9)).trans hw137_9), ((HB.out.cell (World.block_lt_of_cell? w _ hw137_10)).trans hw137_10), ((HB.out.cell (World.block_lt_of_cell? w _ hw137_11)).trans hw137_11), ((HB.out.cell (World.block_lt_of_cell? w _ hw138_0)).trans hw138_0), ((HB.out.cell (World.block_lt_of_cell? w _ hw138_1)).trans hw138_1), ((HB.out.cell (World.block_lt_of_cell? w _ hw138_2)).trans hw138_2), ((HB.out.cell (World.block_lt_of_cell? w _ hw138_3)).trans hw138_3), ((HB.out.cell (World.block_lt_of_cell? w _ hw138_4)).trans hw138_4), ((HB.out.cell (World.block_lt_of_cell? w _ hw138_5)).trans hw138_5), ((HB.out.cell (World.block_lt_of_cell? w _ hw138_6)).trans hw138_6), ((HB.out.cell (World.block_lt_of_cell? w _ hw138_7)).trans hw138_7), ((HB.out.cell (World.block_lt_of_cell? w _ hw138_8)).trans hw138_8), ((HB.out.cell (World.block_lt_of_cell? w _ hw138_9)).trans hw138_9), ((HB.out.cell (World.block_lt_of_cell? w _ hw138_10)).trans hw138_10), ((HB.out.cell (World.block_lt_of_cell? w _ hw138_11)).trans hw138_11)⟩ (fun hHeld => ?_)
        clear hK K
        refine norm_ (a' := ?_) ?_ ?_
        rotate_left
        ·show Act.put _ (some 25) _ = _
         simp only [putS]
         rfl
        refine pure_ (i := 9) (N := some 26) (v := ?_) (a' := ?_) qx7_10 rfl rfl (any_of HT_.out (by kernel_rfl)) (fun _ _ _ h => h) (Or.inl ⟨by rfl, ?_⟩) ?_ ?_
        rotate_left
        ·intro w'
         go_simp
         with_reducible rfl
        rotate_left
        ·simp only [putS]
         rfl
        refine done_ (done_of HT_.out (by kernel_rfl)) ?_
        try go_wp2
        go_roundg k1
        case measure => have := HK1.out; omega
        case rel => exact ⟨(wrap64 (x5_1 + 1)), (by first | rfl | (simp; done) | (simp [*]; done)), H', ⟨by have := HK1.out; omega⟩, ⟨by repeat (first | (with_reducible first | exact HB.out | apply below_alloc | apply pw_below_drewN | apply below_drew1) | exact HB.out)⟩⟩
       ·replace c8 := Bool.eq_false_iff.mpr c8
        subst c8
        have H1 : (some false) = some r := by rw [if_neg (show ¬ (false = true) by decide)] at H; exact H
        clear H
        have H := H1
        clear H1
        obtain rfl := Option.some.inj H
        try go_wp2
        have n0_ := am (below_drew1 HB.out)
        clear HB
        have HB := n0_
        clear n0_
        have p137 : 0 ≤ (x5_1 : Int) := of_decide_eq_true (by first | (with_reducible assumption) | assumption)
        have q137 : x5_1 < (l0.length : Int) := of_decide_eq_true (by first | (with_reducible assumption) | assumption)
        obtain ⟨ad137, e137, hx137_0, hx137_1, hx137_2, hx137_3, hx137_4, hx137_5, hx137_6, hx137_7, hx137_8, hx137_9, hx137_10, hx137_11⟩ := at_T30 HR0.out x5_1 p137 q137
        have hw137_11 := hx137_11
        have hw137_10 := hx137_10
        have hw137_9 := hx137_9
        have hw137_8 := hx137_8
        have hw137_7 := hx137_7
        have hw137_6 := hx137_6
        have hw137_5 := hx137_5
        have hw137_4 := hx137_4
        have hw137_3 := hx137_3
        have hw137_2 := hx137_2
        have hw137_1 := hx137_1
        have hw137_0 := hx137_0
        cases e137
        replace hx137_0 := cellUp HB.out hx137_0
        replace hx137_1 := cellUp HB.out hx137_1
        replace hx137_2 := cellUp HB.out hx137_2
        replace hx137_3 := cellUp HB.out hx137_3
        replace hx137_4 := cellUp HB.out hx137_4
        replace hx137_5 := cellUp HB.out hx137_5
        replace hx137_6 := cellUp HB.out hx137_6
        replace hx137_7 := cellUp HB.out hx137_7
        replace hx137_8 := cellUp HB.out hx137_8
        replace hx137_9 := cellUp HB.out hx137_9
        replace hx137_10 := cellUp HB.out hx137_10
        replace hx137_11 := cellUp HB.out hx137_11
        replace p137 := eq_true p137
        replace q137 := eq_true q137
        have p138 : 0 ≤ (x5_1 : Int) := of_decide_eq_true (by first | (with_reducible assumption) | assumption)
        have q138 : x5_1 < (l1.length : Int) := of_decide_eq_true (by first | (with_reducible assumption) | assumption)
        obtain ⟨ad138, e138, hx138_0, hx138_1, hx138_2, hx138_3, hx138_4, hx138_5, hx138_6, hx138_7, hx138_8, hx138_9, hx138_10, hx138_11⟩ := at_T30 HR1.out x5_1 p138 q138
        have hw138_11 := hx138_11
        have hw138_10 := hx138_10
        have hw138_9 := hx138_9
        have hw138_8 := hx138_8
        have hw138_7 := hx138_7
        have hw138_6 := hx138_6
        have hw138_5 := hx138_5
        have hw138_4 := hx138_4
        have hw138_3 := hx138_3
        have hw138_2 := hx138_2
        have hw138_1 := hx138_1
        have hw138_0 := hx138_0
        cases e138
        replace hx138_0 := cellUp HB.out hx138_0
        replace hx138_1 := cellUp HB.out hx138_1
        replace hx138_2 := cellUp HB.out hx138_2
        replace hx138_3 := cellUp HB.out hx138_3
        replace hx138_4 := cellUp HB.out hx138_4
        replace hx138_5 := cellUp HB.out hx138_5
        replace hx138_6 := cellUp HB.out hx138_6
        replace hx138_7 := cellUp HB.out hx138_7
        replace hx138_8 := cellUp HB.out hx138_8
        replace hx138_9 := cellUp HB.out hx138_9
        replace hx138_10 := cellUp HB.out hx138_10
        replace hx138_11 := cellUp HB.out hx138_11
        replace p138 := eq_true p138
        replace q138 := eq_true q138
        refine start_ (n := 10) (S := fun w' => w'.cell? (ad137.add ((x5_1).toNat * 12)) = some (.int .i64 ((rd_T30 l0 x5_1).f0.f0)) ∧ w'.cell? ⟨(ad137.add ((x5_1).toNat * 12)).block, (ad137.add ((x5_1).toNat * 12)).off + 1, none⟩ = some (.int .i64 ((rd_T30 l0 x5_1).f0.f1)) ∧ w'.cell? ⟨(ad137.add ((x5_1).toNat * 12)).block, (ad137.add ((x5_1).toNat * 12)).off + 2, none⟩ = some (.int .i64 ((rd_T30 l0 x5_1).f1)) ∧ w'.cell? ⟨(ad137.add ((x5_1).toNat * 12)).block, (ad137.add ((x5_1).toNat * 12)).off + 3, none⟩ = some (.int .i64 ((rd_T30 l0 x5_1).f2.f0)) ∧ w'.cell? ⟨(ad137.add ((x5_1).toNat * 12)).block, (ad137.add ((x5_1).toNat * 12)).off + 4, none⟩ = some (.int .i64 ((rd_T30 l0 x5_1).f2.f1)) ∧ w'.cell? ⟨(ad137.add ((x5_1).toNat * 12)).block, (ad137.add ((x5_1).toNat * 12)).off + 5, none⟩ = some (.int .i64 ((rd_T30 l0 x5_1).f3.f0)) ∧ w'.cell? ⟨(ad137.add ((x5_1).toNat * 12)).block, (ad137.add ((x5_1).toNat * 12)).off + 6, none⟩ = some (.int .i64 ((rd_T30 l0 x5_1).f3.f1)) ∧ w'.cell? ⟨(ad137.add ((x5_1).toNat * 12)).block, (ad137.add ((x5_1).toNat * 12)).off + 7, none⟩ = some (.int .i64 ((rd_T30 l0 x5_1).f4.f0)) ∧ w'.cell? ⟨(ad137.add ((x5_1).toNat * 12)).block, (ad137.add ((x5_1).toNat * 12)).off + 8, none⟩ = some (.int .i64 ((rd_T30 l0 x5_1).f4.f1)) ∧ w'.cell? ⟨(ad137.add ((x5_1).toNat * 12)).block, (ad137.add ((x5_1).toNat * 12)).off + 9, none⟩ = some (.int .i64 ((rd_T30 l0 x5_1).f5)) ∧ w'.cell? ⟨(ad137.add ((x5_1).toNat * 12)).block, (ad137.add ((x5_1).toNat * 12)).off + 10, none⟩ = some (.bool ((rd_T30 l0 x5_1).f6)) ∧ w'.cell? ⟨(ad137.add ((x5_1).toNat * 12)).block, (ad137.add ((x5_1).toNat * 12)).off + 11, none⟩ = some (.string ((rd_T30 l0 x5_1).f7)) ∧ w'.cell? (ad138.add ((x5_1).toNat * 12)) = some (.int .i64 ((rd_T30 l1 x5_1).f0.f0)) ∧ w'.cell? ⟨(ad138.add ((x5_1).toNat * 12)).block, (ad138.add ((x5_1).toNat * 12)).off + 1, none⟩ = some (.int .i64 ((rd_T30 l1 x5_1).f0.f1)) ∧ w'.cell? ⟨(ad138.add ((x5_1).toNat * 12)).block, (ad138.add ((x5_1).toNat * 12)).off + 2, none⟩ = some (.int .i64 ((rd_T30 l1 x5_1).f1)) ∧ w'.cell? ⟨(ad138.add ((x5_1).toNat * 12)).block, (ad138.add ((x5_1).toNat * 12)).off + 3, none⟩ = some (.int .i64 ((rd_T30 l1 x5_1).f2.f0)) ∧ w'.cell? ⟨(ad138.add ((x5_1).toNat * 12)).block, (ad138.add ((x5_1).toNat * 12)).off + 4, none⟩ = some (.int .i64 ((rd_T30 l1 x5_1).f2.f1)) ∧ w'.cell? ⟨(ad138.add ((x5_1).toNat * 12)).block, (ad138.add ((x5_1).toNat * 12)).off + 5, none⟩ = some (.int .i64 ((rd_T30 l1 x5_1).f3.f0)) ∧ w'.cell? ⟨(ad138.add ((x5_1).toNat * 12)).block, (ad138.add ((x5_1).toNat * 12)).off + 6, none⟩ = some (.int .i64 ((rd_T30 l1 x5_1).f3.f1)) ∧ w'.cell? ⟨(ad138.add ((x5_1).toNat * 12)).block, (ad138.add ((x5_1).toNat * 12)).off + 7, none⟩ = some (.int .i64 ((rd_T30 l1 x5_1).f4.f0)) ∧ w'.cell? ⟨(ad138.add ((x5_1).toNat * 12)).block, (ad138.add ((x5_1).toNat * 12)).off + 8, none⟩ = some (.int .i64 ((rd_T30 l1 x5_1).f4.f1)) ∧ w'.cell? ⟨(ad138.add ((x5_1).toNat * 12)).block, (ad138.add ((x5_1).toNat * 12)).off + 9, none⟩ = some (.int .i64 ((rd_T30 l1 x5_1).f5)) ∧ w'.cell? ⟨(ad138.add ((x5_1).toNat * 12)).block, (ad138.add ((x5_1).toNat * 12)).off + 10, none⟩ = some (.bool ((rd_T30 l1 x5_1).f6)) ∧ w'.cell? ⟨(ad138.add ((x5_1).toNat * 12)).block, (ad138.add ((x5_1).toNat * 12)).off + 11, none⟩ = some (.string ((rd_T30 l1 x5_1).f7))) (ds := []) qx7_0 (by kernel_rfl) rfl rfl ⟨((HB.out.cell (World.block_lt_of_cell? w _ hw137_0)).trans hw137_0), ((HB.out.cell (World.block_lt_of_cell? w _ hw137_1)).trans hw137_1), ((HB.out.cell (World.block_lt_of_cell? w _ hw137_2)).trans hw137_2), ((HB.out.cell (World.block_lt_of_cell? w _ hw137_3)).trans hw137_3), ((HB.out.cell (World.block_lt_of_cell? w _ hw137_4)).trans hw137_4), ((HB.out.cell (World.block_lt_of_cell? w _ hw137_5)).trans hw137_5), ((HB.out.cell (World.block_lt_of_cell? w _ hw137_6)).trans hw137_6), ((HB.out.cell (World.block_lt_of_cell? w _ hw137_7)).trans hw137_7), ((HB.out.cell (World.block_lt_of_cell? w _ hw137_8)).trans hw137_8), ((HB.out.cell (World.block_lt_of_cell? w _ hw137_9)).trans hw137_9), ((HB.out.cell (World.block_lt_of_cell? w _ hw137_10)).trans hw137_10), ((HB.out.cell (World.block_lt_of_cell? w _ hw137_11)).trans hw137_11), ((HB.out.cell (World.block_lt_of_cell? w _ hw138_0)).trans hw138_0), ((HB.out.cell (World.block_lt_of_cell? w _ hw138_1)).trans hw138_1), ((HB.out.cell (World.block_lt_of_cell? w _ hw138_2)).trans hw138_2), ((HB.out.cell (World.block_lt_of_cell? w _ hw138_3)).trans hw138_3), ((HB.out.cell (World.block_lt_of_cell? w _ hw138_4)).trans hw138_4), ((HB.out.cell (World.block_lt_of_cell? w _ hw138_5)).trans hw138_5), ((HB.out.cell (World.block_lt_of_cell? w _ hw138_6)).trans hw138_6), ((HB.out.cell (World.block_lt_of_cell? w _ hw138_7)).trans hw138_7), ((HB.out.cell (World.block_lt_of_cell? w _ hw138_8)).trans hw138_8), ((HB.out.cell (World.block_lt_of_cell? w _ hw138_9)).trans hw138_9), ((HB.out.cell (World.block_lt_of_cell? w _ hw138_10)).trans hw138_10), ((HB.out.cell (World.block_lt_of_cell? w _ hw138_11)).trans hw138_11)⟩ (fun hHeld => ?_); refine with_tabW laws_eqOpS.tab6 laws_eqOpS.bits6 (fun HT_ HW_ => ?_)
        generalize wr.drew = w11 at HB hx137_0 hx137_1 hx137_10 hx137_11 hx137_2 hx137_3 hx137_4 hx137_5 hx137_6 hx137_7 hx137_8 hx137_9 hx138_0 hx138_1 hx138_10 hx138_11 hx138_2 hx138_3 hx138_4 hx138_5 hx138_6 hx138_7 hx138_8 hx138_9 hHeld ⊢
        refine pure_ (i := 0) (N := some 17) (v := ?_) (a' := ?_) qx7_1 rfl rfl (any_of HT_.out (by kernel_rfl)) (fun _ _ _ h => h) (Or.inl ⟨by rfl, ?_⟩) ?_ ?_
        rotate_left
        ·intro w'
         go_simp
         with_reducible rfl
        rotate_left
        ·simp only [putS]
         rfl
        refine pure_ (i := 1) (N := some 18) (v := ?_) (a' := ?_) qx7_2 rfl rfl (any_of HT_.out (by kernel_rfl)) (fun _ _ _ h => h) (Or.inl ⟨by rfl, ?_⟩) ?_ ?_
        rotate_left
        ·intro w'
         go_simp
         with_reducible rfl
        rotate_left
        ·simp only [putS]
         rfl
        refine pure_ (i := 2) (N := some 19) (v := ?_) (a' := ?_) qx7_3 rfl rfl (any_of HT_.out (by kernel_rfl)) (fun _ _ _ h => h) (Or.inl ⟨by rfl, ?_⟩) ?_ ?_
        rotate_left
        ·intro w'
         go_simp
         with_reducible rfl
        rotate_left
        ·simp only [putS]
         rfl
        refine pure_ (i := 4) (N := some 21) (v := ?_) (a' := ?_) qx7_4 rfl rfl (any_of HT_.out (by kernel_rfl)) (fun _ _ _ h => h) (Or.inl ⟨by rfl, ?_⟩) ?_ ?_
        rotate_left
        ·intro w'
         go_simp
         with_reducible rfl
        rotate_left
        ·simp only [putS]
         rfl
        refine pure_ (i := 5) (N := some 22) (v := ?_) (a' := ?_) qx7_5 rfl rfl (any_of HT_.out (by kernel_rfl)) (fun _ _ _ h => h) (Or.inl ⟨by rfl, ?_⟩) ?_ ?_
        rotate_left
        ·intro w'
         go_simp
         with_reducible rfl
        rotate_left
        ·simp only [putS]
         rfl
        refine pure_ (i := 6) (N := some 23) (v := ?_) (a' := ?_) qx7_6 rfl rfl (any_of HT_.out (by kernel_rfl)) (fun _ _ _ h => h) (Or.inl ⟨by rfl, ?_⟩) ?_ ?_
        rotate_left
        ·intro w'
         go_simp
         with_reducible rfl
        rotate_left
        ·simp only [putS]
         rfl
        refine take_ (i := 3) (N := some 20) (v := ?_) (a' := ?_) qx7_7 rfl rfl (take_ofW HT_.out HW_.out (by kernel_rfl)) (fun _ _ _ h => h) (Or.inl ⟨by rfl, ?_⟩) hHeld ?_ ?_
        rotate_left
        ·rintro w' ⟨s0, s1, s2, s3, s4, s5, s6, s7, s8, s9, s10, s11, s12, s13, s14, s15, s16, s17, s18, s19, s20, s21, s22, s23⟩
         go_simp
         with_reducible rfl
        rotate_left
        ·simp only [putS]
         rfl
        refine take_ (i := 7) (N := some 24) (v := ?_) (a' := ?_) qx7_8 rfl rfl (take_ofW HT_.out HW_.out (by kernel_rfl)) (fun _ _ _ h => h) (Or.inl ⟨by rfl, ?_⟩) hHeld ?_ ?_
        rotate_left
        ·rintro w' ⟨s0, s1, s2, s3, s4, s5, s6, s7, s8, s9, s10, s11, s12, s13, s14, s15, s16, s17, s18, s19, s20, s21, s22, s23⟩
         go_simp
         with_reducible rfl
        rotate_left
        ·simp only [putS]
         rfl
        refine one_ (i := 8) (N := some 25) qx7_9 rfl rfl (one_of HT_.out (by kernel_rfl)) (by decide) (fun K hK => ?_)
        refine goes_ Try.func49 (by kernel_rfl) rfl #[.agg #[.int .i64 ((rd_T30 l0 x5_1).f0.f0), .int .i64 ((rd_T30 l0 x5_1).f0.f1), .int .i64 ((rd_T30 l0 x5_1).f1), .int .i64 ((rd_T30 l0 x5_1).f2.f0), .int .i64 ((rd_T30 l0 x5_1).f2.f1), .int .i64 ((rd_T30 l0 x5_1).f3.f0), .int .i64 ((rd_T30 l0 x5_1).f3.f1), .int .i64 ((rd_T30 l0 x5_1).f4.f0), .int .i64 ((rd_T30 l0 x5_1).f4.f1), .int .i64 ((rd_T30 l0 x5_1).f5), .bool ((rd_T30 l0 x5_1).f6), .string ((rd_T30 l0 x5_1).f7)], .agg #[.int .i64 ((rd_T30 l1 x5_1).f0.f0), .int .i64 ((rd_T30 l1 x5_1).f0.f1), .int .i64 ((rd_T30 l1 x5_1).f1), .int .i64 ((rd_T30 l1 x5_1).f2.f0), .int .i64 ((rd_T30 l1 x5_1).f2.f1), .int .i64 ((rd_T30 l1 x5_1).f3.f0), .int .i64 ((rd_T30 l1 x5_1).f3.f1), .int .i64 ((rd_T30 l1 x5_1).f4.f0), .int .i64 ((rd_T30 l1 x5_1).f4.f1), .int .i64 ((rd_T30 l1 x5_1).f5), .bool ((rd_T30 l1 x5_1).f6), .string ((rd_T30 l1 x5_1).f7)]] (by rfl) rfl rfl (by (try simp only [List.map_toArray, List.map_cons, List.map_nil]); first | done | rfl | (simp only [List.length_drop, List.length_take]; rfl)) ?_
        with_reducible refine (laws_eqOp.calls ((rd_T30 l0 x5_1).f0.f0) ((rd_T30 l0 x5_1).f0.f1) ((rd_T30 l0 x5_1).f1) ((rd_T30 l0 x5_1).f2.f0) ((rd_T30 l0 x5_1).f2.f1) ((rd_T30 l0 x5_1).f3.f0) ((rd_T30 l0 x5_1).f3.f1) ((rd_T30 l0 x5_1).f4.f0) ((rd_T30 l0 x5_1).f4.f1) ((rd_T30 l0 x5_1).f5) ((rd_T30 l0 x5_1).f6) ((rd_T30 l0 x5_1).f7) ((rd_T30 l1 x5_1).f0.f0) ((rd_T30 l1 x5_1).f0.f1) ((rd_T30 l1 x5_1).f1) ((rd_T30 l1 x5_1).f2.f0) ((rd_T30 l1 x5_1).f2.f1) ((rd_T30 l1 x5_1).f3.f0) ((rd_T30 l1 x5_1).f3.f1) ((rd_T30 l1 x5_1).f4.f0) ((rd_T30 l1 x5_1).f4.f1) ((rd_T30 l1 x5_1).f5) ((rd_T30 l1 x5_1).f6) ((rd_T30 l1 x5_1).f7) false _ A7.out).mono ?_
        rintro e w12 ⟨rfl, hb⟩
        refine ⟨_, rfl, ?_⟩
        have n0_ := am (below_step (by repeat (first | (with_reducible first | exact HB.out | apply below_alloc | apply pw_below_drewN | apply below_drew1) | exact HB.out)) hb)
        clear HB
        have HB := n0_
        clear n0_
        (try clear hb)
        (try clear hb2)
        (try clear hk)
        (try clear hi)
        refine hK.out _ _ ⟨((HB.out.cell (World.block_lt_of_cell? w _ hw137_0)).trans hw137_0), ((HB.out.cell (World.block_lt_of_cell? w _ hw137_1)).trans hw137_1), ((HB.out.cell (World.block_lt_of_cell? w _ hw137_2)).trans hw137_2), ((HB.out.cell (World.block_lt_of_cell? w _ hw137_3)).trans hw137_3), ((HB.out.cell (World.block_lt_of_cell? w _ hw137_4)).trans hw137_4), ((HB.out.cell (World.block_lt_of_cell? w _ hw137_5)).trans hw137_5), ((HB.out.cell (World.block_lt_of_cell? w _ hw137_6)).trans hw137_6), ((HB.out.cell (World.block_lt_of_cell? w _ hw137_7)).trans hw137_7), ((HB.out.cell (World.block_lt_of_cell? w _ hw137_8)).trans hw137_8), ((HB.out.cell (World.block_lt_of_cell? w _ hw137_9)).trans hw137_9), ((HB.out.cell (World.block_lt_of_cell? w _ hw137_10)).trans hw137_10), ((HB.out.cell (World.block_lt_of_cell? w _ hw137_11)).trans hw137_11), ((HB.out.cell (World.block_lt_of_cell? w _ hw138_0)).trans hw138_0), ((HB.out.cell (World.block_lt_of_cell? w _ hw138_1)).trans hw138_1), ((HB.out.cell (World.block_lt_of_cell? w _ hw138_2)).trans hw138_2), ((HB.out.cell (World.block_lt_of_cell? w _ hw138_3)).trans hw138_3), ((HB.out.cell (World.block_lt_of_cell? w _ hw138_4)).trans hw138_4), ((HB.out.cell (World.block_lt_of_cell? w _ hw138_5)).trans hw138_5), ((HB.out.cell (World.block_lt_of_cell? w _ hw138_6)).trans hw138_6), ((HB.out.cell (World.block_lt_of_cell? w _ hw138_7)).trans hw138_7), ((HB.out.cell (World.block_lt_of_cell? w _ hw138_8)).trans hw138_8), ((HB.out.cell (World.block_lt_of_cell? w _ hw138_9)).trans hw138_9), ((HB.out.cell (World.block_lt_of_cell? w _ hw138_10)).trans hw138_10), ((HB.out.cell (World.block_lt_of_cell? w _ hw138_11)).trans hw138_11)⟩ (fun hHeld => ?_)
        clear hK K
        refine norm_ (a' := ?_) ?_ ?_
        rotate_left
        ·show Act.put _ (some 25) _ = _
         simp only [putS]
         rfl
        refine pure_ (i := 9) (N := some 26) (v := ?_) (a' := ?_) qx7_10 rfl rfl (any_of HT_.out (by kernel_rfl)) (fun _ _ _ h => h) (Or.inl ⟨by rfl, ?_⟩) ?_ ?_
        rotate_left
        ·intro w'
         go_simp
         with_reducible rfl
        rotate_left
        ·simp only [putS]
         rfl
        refine done_ (done_of HT_.out (by kernel_rfl)) ?_
        try go_wp2
        go_ret
        exact ⟨by first | rfl | (simp [errW_none, errW_some] <;> rfl) | (simp [*, errW_none, errW_some] <;> rfl), by repeat (first | (with_reducible first | exact HB.out | apply below_alloc | apply pw_below_drewN | apply below_drew1) | exact HB.out)⟩
      ·rw [if_neg c6] at H
       exact absurd H (by simp)
     ·rw [if_neg c5] at H
      exact absurd H (by simp)
    ·rw [if_neg c4] at H
     have c4b0 : decide (x5_1 < (l0.length : Int)) = false := decide_eq_false c4
     clear c4
     obtain rfl := Option.some.inj H
     go_wp2
     go_ret
     exact ⟨by first | rfl | (simp [errW_none, errW_some] <;> rfl) | (simp [*, errW_none, errW_some] <;> rfl), by repeat (first | (with_reducible first | exact HB.out | apply below_alloc | apply pw_below_drewN | apply below_drew1) | exact HB.out)⟩
 ·rw [if_neg c3] at H
  have c3b0 : ((l0.length : Int) == (l1.length : Int)) = false := beq_eq_false_iff_ne.mpr c3
  have c3b1 : ((l0.length : Int) != (l1.length : Int)) = true := bne_iff_ne.mpr c3
  have c3b2 : (l0.length == l1.length) = false := by first | simpa using c3 | (simp at c3 ⊢; omega)
  obtain rfl := Option.some.inj H
  go_enter Try.func19, Try.ntmps19
  go_wp2
  go_ret
  exact ⟨by first | rfl | (simp [errW_none, errW_some] <;> rfl) | (simp [*, errW_none, errW_some] <;> rfl), by repeat (first | (with_reducible first | exact HB.out | apply below_alloc | apply pw_below_drewN | apply below_drew1) | exact HB.out)⟩

end Go.Proofs.Ytomigiindmojkaa.QJ

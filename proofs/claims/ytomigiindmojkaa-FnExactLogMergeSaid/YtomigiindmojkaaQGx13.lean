/- A call of each function named here does what the Lean function of that name says. Conditions: each theorem's premises. Printed by the kit, repaired by a program, joined with texts by hand. -/
import Derived.Test.YtomigiindmojkaaQGx0
import Derived.Test.YtomigiindmojkaaQGx1
import Derived.Test.YtomigiindmojkaaQGx9
namespace Go.Proofs.Ytomigiindmojkaa.QG
open Go.Proofs.Ytomigiindmojkaa.Base Go.RowKit Go.Proofs.YtomigiindmojkaaW.PrintWords Go.Proofs.YtomigiindmojkaaW.PrintLast Go.Proofs.YtomigiindmojkaaW.PrintMore
attribute [local go_sem] max2_int min2_int max_two min_two max_three min_three max_four min_four   -- for this text's walks alone
set_option linter.unusedVariables false
set_option linter.unusedSimpArgs false

attribute [local go_sem high] eqA28
def qx13_0 : Array Bool := #[false, false, false, false, false, false, false, false, false, false, false, false, false, false]
def qx13_1 : Array Bool := #[true, false, false, false, false, false, false, false, false, false, false, false, false, false]
def qx13_2 : Array Bool := #[true, true, false, false, false, false, false, false, false, false, false, false, false, false]
def qx13_3 : Array Bool := #[true, true, true, false, false, false, false, false, false, false, false, false, false, false]
def qx13_4 : Array Bool := #[true, true, true, true, false, false, false, false, false, false, false, false, false, false]
def qx13_5 : Array Bool := #[true, true, true, true, true, false, false, false, false, false, false, false, false, false]
def qx13_6 : Array Bool := #[true, true, true, true, true, true, false, false, false, false, false, false, false, false]
def qx13_7 : Array Bool := #[true, true, true, true, true, true, true, false, false, false, false, false, false, false]
def qx13_8 : Array Bool := #[true, true, true, true, true, true, true, true, false, false, false, false, false, false]
def qx13_9 : Array Bool := #[true, true, true, true, true, true, true, true, true, false, false, false, false, false]
def qx13_10 : Array Bool := #[true, true, true, true, true, true, true, true, true, true, true, false, false, false]
def qx13_11 : Array Bool := #[true, true, true, true, true, true, true, true, true, true, true, true, false, false]
def qx13_12 : Array Bool := #[true, true, true, true, true, true, true, true, true, true, true, true, true, false]
def qx13_13 : Array Bool := #[true, true, true, true, true, true, true, true, true, true, true, true, true, true]
def qx13_14 : Array Bool := #[true, true, true, true, true, true, true, true, true, false, true, false, false, false]
def qx13_15 : Array Bool := #[true, true, true, true, true, true, true, true, true, true, false, false, false, false]
/-! ### spec_insertOp: function 58 -/
def spec_insertOp.l0 : Nat → List (S30) → Int → Int → Int → Int → Int → Int → Int → Int → Int → Int → Int → Bool → ByteArray → Option ((List (S30)))
 | 0, _, _, _, _, _, _, _, _, _, _, _, _, _, _ => none
 | k + 1, x0, x5, x160000, x160001, x160002, x160003, x160004, x160005, x160006, x160007, x160008, x160009, x160010, x160011 => if x5 < (x0.length : Int) then (if 0 ≤ x5 then ((spec_stampLess.f ((rd_T30 x0 x5).f0.f0) ((rd_T30 x0 x5).f0.f1) x160000 x160001).bind fun t161 => (if t161 = true then (spec_insertOp.l0 k x0 (wrap64 (x5 + 1)) x160000 x160001 x160002 x160003 x160004 x160005 x160006 x160007 x160008 x160009 x160010 x160011) else (if (((rd_T30 x0 x5).f0.f0) == x160000 && (((rd_T30 x0 x5).f0.f1) == x160001)) = true then (some x0) else ((some (([] : List (S30)) : List (S30))).bind fun y163 => (if x5 ≤ (x0.length : Int) then ((some (x0.take (x5 : Int).toNat : List (S30))).bind fun y166 => (if y163.length + y166.length < 1353245080339 then ((some (y163 ++ y166 : List (S30))).bind fun y170 => (if y170.length < 1353245080339 then ((some (y170 ++ [(⟨(⟨x160000, x160001⟩ : S28), x160002, (⟨x160003, x160004⟩ : S28), (⟨x160005, x160006⟩ : S28), (⟨x160007, x160008⟩ : S28), x160009, x160010, x160011⟩ : S30)] : List (S30))).bind fun y173 => ((some (x0.drop (x5 : Int).toNat : List (S30))).bind fun y176 => (if y173.length + y176.length < 1353245080339 then (some (y173 ++ y176)) else (none)))) else (none))) else (none))) else (none)))))) else (none)) else ((some (([] : List (S30)) : List (S30))).bind fun y183 => (if 0 ≤ x5 then (if x5 ≤ (x0.length : Int) then ((some (x0.take (x5 : Int).toNat : List (S30))).bind fun y186 => (if y183.length + y186.length < 1353245080339 then ((some (y183 ++ y186 : List (S30))).bind fun y190 => (if y190.length < 1353245080339 then ((some (y190 ++ [(⟨(⟨x160000, x160001⟩ : S28), x160002, (⟨x160003, x160004⟩ : S28), (⟨x160005, x160006⟩ : S28), (⟨x160007, x160008⟩ : S28), x160009, x160010, x160011⟩ : S30)] : List (S30))).bind fun y193 => ((some (x0.drop (x5 : Int).toNat : List (S30))).bind fun y196 => (if y193.length + y196.length < 1353245080339 then (some (y193 ++ y196)) else (none)))) else (none))) else (none))) else (none)) else (none)))
def spec_insertOp.f (k : Nat) (l0 : List (S30)) (a1_0 : Int) (a1_1 : Int) (a1_2 : Int) (a1_3 : Int) (a1_4 : Int) (a1_5 : Int) (a1_6 : Int) (a1_7 : Int) (a1_8 : Int) (a1_9 : Int) (a1_10 : Bool) (a1_11 : ByteArray) : Option ((List (S30))) := spec_insertOp.l0 k l0 0 a1_0 a1_1 a1_2 a1_3 a1_4 a1_5 a1_6 a1_7 a1_8 a1_9 a1_10 a1_11
theorem spec_insertOp.mono_l : ∀ k, (∀ y0 y1 y2 y3 y4 y5 y6 y7 y8 y9 y10 y11 y12 y13, LeO (spec_insertOp.l0 k y0 y1 y2 y3 y4 y5 y6 y7 y8 y9 y10 y11 y12 y13) (spec_insertOp.l0 (k + 1) y0 y1 y2 y3 y4 y5 y6 y7 y8 y9 y10 y11 y12 y13))
 | 0 => fun _ _ _ _ _ _ _ _ _ _ _ _ _ _ r h => by simp [spec_insertOp.l0] at h
 | k + 1 => by
  have ih0 := spec_insertOp.mono_l k
  ·intro y0 y1 y2 y3 y4 y5 y6 y7 y8 y9 y10 y11 y12 y13
   unfold spec_insertOp.l0
   repeat' first
   | (with_reducible exact ih0 _ _ _ _ _ _ _ _ _ _ _ _ _ _)
   | (with_reducible exact LeO.refl _)
   | (with_reducible exact LeO.none _)
   | (with_reducible refine LeO.ite ?_ ?_)
   | (with_reducible refine LeO.bind ?_ (fun _ => ?_))
   | exact ih0 _ _ _ _ _ _ _ _ _ _ _ _ _ _
   | exact LeO.none _
   | refine LeO.ite ?_ ?_
   | refine LeO.bind ?_ (fun _ => ?_)
theorem spec_insertOp.mono : ∀ a0 a1 a2 a3 a4 a5 a6 a7 a8 a9 a10 a11 a12 k, LeO (spec_insertOp.f k a0 a1 a2 a3 a4 a5 a6 a7 a8 a9 a10 a11 a12) (spec_insertOp.f (k + 1) a0 a1 a2 a3 a4 a5 a6 a7 a8 a9 a10 a11 a12) := by
 intro a0 a1 a2 a3 a4 a5 a6 a7 a8 a9 a10 a11 a12 k
 have ih0 := spec_insertOp.mono_l k
 unfold spec_insertOp.f
 repeat' first
   | (with_reducible exact ih0 _ _ _ _ _ _ _ _ _ _ _ _ _ _)
   | (with_reducible exact LeO.refl _)
   | (with_reducible exact LeO.none _)
   | (with_reducible refine LeO.ite ?_ ?_)
   | (with_reducible refine LeO.bind ?_ (fun _ => ?_))
   | exact ih0 _ _ _ _ _ _ _ _ _ _ _ _ _ _
   | exact LeO.none _
   | refine LeO.ite ?_ ?_
   | refine LeO.bind ?_ (fun _ => ?_)
def spec_insertOp.T2 : Bool × List (List Nat × List Nat) := (true, [([], []), ([], []), ([1], [1]), ([0, 2], [0, 2]), ([3], [3]), ([4], [4]), ([4], [4]), ([5, 6, 4], [4, 5, 6]), ([7, 4], [4, 7]), ([8, 4], [4, 8]), ([4], [4]), ([10, 4], [4, 10]), ([9, 11, 4, 4], [4, 9, 11]), ([4, 12], [4, 12])])
def spec_insertOp.B2 : List Nat := [0, 0, 2, 7, 15, 31, 31, 127, 255, 511, 31, 1055, 4095, 8191]
theorem spec_insertOp.tab2 : rtab .any (opsOf Try.f58 2) = spec_insertOp.T2 := by kernel_rfl
theorem spec_insertOp.bits2 : waitsOk spec_insertOp.T2.2 spec_insertOp.B2 = true := by kernel_rfl
def spec_insertOp.T4 : Bool × List (List Nat × List Nat) := (true, [([], []), ([], []), ([1], [1]), ([0, 2], [0, 2]), ([3], [3]), ([4], [4]), ([4], [4]), ([5, 6, 4], [4, 5, 6]), ([7, 4], [4, 7]), ([8, 4], [4, 8]), ([4], [4]), ([10, 4], [4, 10]), ([9, 11, 4], [4, 9, 11]), ([4, 12], [4, 12])])
def spec_insertOp.B4 : List Nat := [0, 0, 2, 7, 15, 31, 31, 127, 255, 511, 31, 1055, 4095, 8191]
theorem spec_insertOp.tab4 : rtab .any (opsOf Try.f58 4) = spec_insertOp.T4 := by kernel_rfl
theorem spec_insertOp.bits4 : waitsOk spec_insertOp.T4.2 spec_insertOp.B4 = true := by kernel_rfl
set_option maxHeartbeats 8000000 in
set_option maxRecDepth 100000 in
theorem spec_insertOp.calls (k : Nat) (P0_ : Nat → Prop) (u9000_ : Value) (l0 : List (S30)) (a1_0 : Int) (a1_1 : Int) (a1_2 : Int) (a1_3 : Int) (a1_4 : Int) (a1_5 : Int) (a1_6 : Int) (a1_7 : Int) (a1_8 : Int) (a1_9 : Int) (a1_10 : Bool) (a1_11 : ByteArray) (r : List (S30)) (w0 w : World) (hB : Below w0.heap.size w0 w) (ho0 : Kd.R k30 30 w w0.heap.size P0_ u9000_ l0) (h : spec_insertOp.f k l0 a1_0 a1_1 a1_2 a1_3 a1_4 a1_5 a1_6 a1_7 a1_8 a1_9 a1_10 a1_11 = some r) :
  Calls Try.prog 58 #[u9000_, .agg #[.int .i64 a1_0, .int .i64 a1_1, .int .i64 a1_2, .int .i64 a1_3, .int .i64 a1_4, .int .i64 a1_5, .int .i64 a1_6, .int .i64 a1_7, .int .i64 a1_8, .int .i64 a1_9, .bool a1_10, .string a1_11]] w fun e w' => ∃ v0_ : Value, e = .returned (v0_) ∧ Kd.R k30 30 w' w0.heap.size (fun k_ => (P0_ k_ ∨ w.heap.size ≤ k_)) v0_ r ∧ Below w0.heap.size w0 w' ∧ Kept w w' (fun k_ => P0_ k_) := by
 have hu30 := Try.underlying30
 have hu28 := Try.underlying28
 have HO0 := Aside0.mk (show Kd.R k30 30 w w0.heap.size (fun k_ => (P0_ k_ ∨ w.heap.size ≤ k_)) u9000_ l0 from Kd.R_mono ho0 (fun k_ hk => (.inl hk)))
 have HK := Aside0.mk (Kept.refl w (fun k_ => P0_ k_))
 have HW0 := Aside0.mk hB.size
 have HB := Aside0.mk hB
 clear hB
 have H : (spec_insertOp.l0 k l0 0 a1_0 a1_1 a1_2 a1_3 a1_4 a1_5 a1_6 a1_7 a1_8 a1_9 a1_10 a1_11) = some r := h
 clear h
 have H' := Aside0.mk H
 clear H
 go_enter Try.func58, Try.ntmps58
 go_wp2_with (first | ((with_reducible refine gate_dst (N := 3) rfl ?_); refine box_event ?hg (N := 3) ?hd (cs := #[.int .i64 a1_0, .int .i64 a1_1, .int .i64 a1_2, .int .i64 a1_3, .int .i64 a1_4, .int .i64 a1_5, .int .i64 a1_6, .int .i64 a1_7, .int .i64 a1_8, .int .i64 a1_9, .bool a1_10, .string a1_11]) (t := 30) ?hr ?_; (case hd => rfl); (case hg => rfl); (case hr => first | (go_simp; done) | (go_simp; rfl)); intro gb159 hg w3 hbox hb; have n0_ := Aside0.mk (Kd.R_below (Kd.R_elderB (by (with_reducible repeat (first | apply Kd.R_alloc | apply Kd.R_drewN | apply Kd.R_drew)); exact HO0.out) gb159 (Nat.le_of_eq hg.symm)) hb); have n1_ := Aside0.mk (Kept.below (S := (fun k_ => P0_ k_)) (by repeat (first | (with_reducible first | exact HK.out | apply Kept.alloc | apply Kept.drewN | apply Kept.drew) | exact HK.out)) hb); have n2_ := Aside0.mk (below_step (by repeat (first | (with_reducible first | exact HB.out | apply below_alloc | apply pw_below_drewN | apply below_drew1) | exact HB.out)) hb); have n3_ := Aside0.mk (hbox); have n4_ := Aside0.mk ((by rw [hg]; exact (by first | exact HK.out.1 | exact (show Kept w _ (fun k_ => P0_ k_) from by repeat (first | (with_reducible first | exact HK.out | apply Kept.alloc | apply Kept.drewN | apply Kept.drew) | exact HK.out)).1) : w.heap.size ≤ gb159)); have n5_ := Aside0.mk ((by rw [hg]; exact (below_size (by repeat (first | (with_reducible first | exact HB.out | apply below_alloc | apply pw_below_drewN | apply below_drew1) | exact HB.out))) : w0.heap.size ≤ gb159)); clear HO0; clear HK; clear HB; have HO0 := n0_; have HK := n1_; have HB := n2_; have BK159 := n3_; have GW159 := n4_; have GE159 := n5_; clear n0_ n1_ n2_ n3_ n4_ n5_; clear hb hbox hg))
 go_loopg [5] k (fun kq v5 w' => ∃ (x5_1 : Int), v5 = .int .i64 x5_1 ∧ Aside0 (spec_insertOp.l0 kq l0 x5_1 a1_0 a1_1 a1_2 a1_3 a1_4 a1_5 a1_6 a1_7 a1_8 a1_9 a1_10 a1_11 = some r) ∧ Aside0 (kq ≤ k) ∧ Aside0 (Kd.R k30 30 w' w0.heap.size (fun k_ => (P0_ k_ ∨ w.heap.size ≤ k_) ∧ k_ ≠ gb159) u9000_ l0) ∧ Aside0 (w'.heap[gb159]? = some (.cells #[.int .i64 a1_0, .int .i64 a1_1, .int .i64 a1_2, .int .i64 a1_3, .int .i64 a1_4, .int .i64 a1_5, .int .i64 a1_6, .int .i64 a1_7, .int .i64 a1_8, .int .i64 a1_9, .bool a1_10, .string a1_11] 30 (0, 0))) ∧ Aside0 (Kept w w' (fun k_ => P0_ k_)) ∧ Aside0 (Below w0.heap.size w0 w'))
 case atStart => exact ⟨(0), (by first | rfl | (simp; done) | (simp [*]; done)), H', ⟨Nat.le_refl _⟩, ⟨by (with_reducible repeat (first | apply Kd.R_alloc | apply Kd.R_drewN | apply Kd.R_drew)); exact HO0.out⟩, ⟨by (with_reducible repeat (first | refine blk_drewN ?_ _ | refine blk_drew ?_ | refine blk_alloc ?_ _)); exact BK159.out⟩, ⟨by repeat (first | (with_reducible first | exact HK.out | apply Kept.alloc | apply Kept.drewN | apply Kept.drew | refine Kept.setCell ?_ (.inr GW159.out) _) | exact HK.out)⟩, ⟨by repeat (first | (with_reducible first | exact HB.out | apply below_alloc | apply pw_below_drewN | apply below_drew1 | refine below_set ?_ GE159.out) | exact HB.out)⟩⟩
 case round =>
  clear H'
  try clear p2
  obtain ⟨x5_1, rfl, HA, HK1, HO_0, BK159, HK, HB⟩ := hrel
  cases gk with
  | zero => exact absurd HA.out (by simp [spec_insertOp.l0])
  | succ k1 =>
   have H := HA.out
   clear HA
   simp only [spec_insertOp.l0] at H
   by_cases c4 : x5_1 < (l0.length : Int)
   ·rw [if_pos c4] at H
    have c4b0 : decide (x5_1 < (l0.length : Int)) = true := decide_eq_true c4
    clear c4
    by_cases c5 : 0 ≤ x5_1
    ·rw [if_pos c5] at H
     have c5b0 : decide (0 ≤ x5_1) = true := decide_eq_true c5
     clear c5
     replace H := Option.bind_eq_some_iff.mp H
     obtain ⟨t161, A60, H⟩ := H
     replace H : (if t161 = true then (spec_insertOp.l0 k1 l0 (wrap64 (x5_1 + 1)) a1_0 a1_1 a1_2 a1_3 a1_4 a1_5 a1_6 a1_7 a1_8 a1_9 a1_10 a1_11) else (if (((rd_T30 l0 x5_1).f0.f0) == a1_0 && (((rd_T30 l0 x5_1).f0.f1) == a1_1)) = true then (some l0) else ((some (([] : List (S30)) : List (S30))).bind fun y163 => (if x5_1 ≤ (l0.length : Int) then ((some (l0.take (x5_1 : Int).toNat : List (S30))).bind fun y166 => (if y163.length + y166.length < 1353245080339 then ((some (y163 ++ y166 : List (S30))).bind fun y170 => (if y170.length < 1353245080339 then ((some (y170 ++ [(⟨(⟨a1_0, a1_1⟩ : S28), a1_2, (⟨a1_3, a1_4⟩ : S28), (⟨a1_5, a1_6⟩ : S28), (⟨a1_7, a1_8⟩ : S28), a1_9, a1_10, a1_11⟩ : S30)] : List (S30))).bind fun y173 => ((some (l0.drop (x5_1 : Int).toNat : List (S30))).bind fun y176 => (if y173.length + y176.length < 1353245080339 then (some (y173 ++ y176)) else (none)))) else (none))) else (none))) else (none))))) = some r := H
     have A6 := Aside0.mk A60
     clear A60
     by_cases c7 : t161 = true
     ·subst c7
      have H1 : (spec_insertOp.l0 k1 l0 (wrap64 (x5_1 + 1)) a1_0 a1_1 a1_2 a1_3 a1_4 a1_5 a1_6 a1_7 a1_8 a1_9 a1_10 a1_11) = some r := by rw [if_pos rfl] at H; exact H
      clear H
      have H := H1
      clear H1
      have H' := Aside0.mk H
      clear H
      try go_wp2
      have n0_ := Aside0.mk (Kd.R_drew HO_0.out)
      have n1_ := Aside0.mk (blk_drew BK159.out)
      have n2_ := Aside0.mk (Kept.drew HK.out)
      have n3_ := Aside0.mk (below_drew1 HB.out)
      clear HO_0
      clear BK159
      clear HK
      clear HB
      have HO_0 := n0_
      have BK159 := n1_
      have HK := n2_
      have HB := n3_
      clear n0_ n1_ n2_ n3_
      obtain ⟨Ao9, co9, eo9⟩ := Kd.R_slice HO_0.out
      (first | subst eo9 | (injection eo9 with f1_ f2_ f3_; have f4_ := f1_.symm; have f5_ := f3_.symm; clear f1_ f2_ f3_; subst f4_; subst f5_))
      have p160 : 0 ≤ (x5_1 : Int) := of_decide_eq_true (by first | (with_reducible assumption) | assumption)
      have q160 : x5_1 < (l0.length : Int) := of_decide_eq_true (by first | (with_reducible assumption) | assumption)
      obtain ⟨ad160, e160, hx160_0, hx160_1, hx160_2, hx160_3, hx160_4, hx160_5, hx160_6, hx160_7, hx160_8, hx160_9, hx160_10, hx160_11⟩ := at_T30 (Kd.R_reads' HO_0.out).2.2 x5_1 p160 q160
      cases e160
      replace p160 := eq_true p160
      replace q160 := eq_true q160
      refine start_ (n := 14) (S := fun w' => w'.cell? ⟨gb159, 0, none⟩ = some (.int .i64 a1_0) ∧ w'.cell? ⟨gb159, 1, none⟩ = some (.int .i64 a1_1) ∧ w'.cell? ⟨gb159, 2, none⟩ = some (.int .i64 a1_2) ∧ w'.cell? ⟨gb159, 3, none⟩ = some (.int .i64 a1_3) ∧ w'.cell? ⟨gb159, 4, none⟩ = some (.int .i64 a1_4) ∧ w'.cell? ⟨gb159, 5, none⟩ = some (.int .i64 a1_5) ∧ w'.cell? ⟨gb159, 6, none⟩ = some (.int .i64 a1_6) ∧ w'.cell? ⟨gb159, 7, none⟩ = some (.int .i64 a1_7) ∧ w'.cell? ⟨gb159, 8, none⟩ = some (.int .i64 a1_8) ∧ w'.cell? ⟨gb159, 9, none⟩ = some (.int .i64 a1_9) ∧ w'.cell? ⟨gb159, 10, none⟩ = some (.bool a1_10) ∧ w'.cell? ⟨gb159, 11, none⟩ = some (.string a1_11) ∧ w'.cell? (ad160.add ((x5_1).toNat * 12)) = some (.int .i64 ((rd_T30 l0 x5_1).f0.f0)) ∧ w'.cell? ⟨(ad160.add ((x5_1).toNat * 12)).block, (ad160.add ((x5_1).toNat * 12)).off + 1, none⟩ = some (.int .i64 ((rd_T30 l0 x5_1).f0.f1)) ∧ w'.cell? ⟨(ad160.add ((x5_1).toNat * 12)).block, (ad160.add ((x5_1).toNat * 12)).off + 2, none⟩ = some (.int .i64 ((rd_T30 l0 x5_1).f1)) ∧ w'.cell? ⟨(ad160.add ((x5_1).toNat * 12)).block, (ad160.add ((x5_1).toNat * 12)).off + 3, none⟩ = some (.int .i64 ((rd_T30 l0 x5_1).f2.f0)) ∧ w'.cell? ⟨(ad160.add ((x5_1).toNat * 12)).block, (ad160.add ((x5_1).toNat * 12)).off + 4, none⟩ = some (.int .i64 ((rd_T30 l0 x5_1).f2.f1)) ∧ w'.cell? ⟨(ad160.add ((x5_1).toNat * 12)).block, (ad160.add ((x5_1).toNat * 12)).off + 5, none⟩ = some (.int .i64 ((rd_T30 l0 x5_1).f3.f0)) ∧ w'.cell? ⟨(ad160.add ((x5_1).toNat * 12)).block, (ad160.add ((x5_1).toNat * 12)).off + 6, none⟩ = some (.int .i64 ((rd_T30 l0 x5_1).f3.f1)) ∧ w'.cell? ⟨(ad160.add ((x5_1).toNat * 12)).block, (ad160.add ((x5_1).toNat * 12)).off + 7, none⟩ = some (.int .i64 ((rd_T30 l0 x5_1).f4.f0)) ∧ w'.cell? ⟨(ad160.add ((x5_1).toNat * 12)).block, (ad160.add ((x5_1).toNat * 12)).off + 8, none⟩ = some (.int .i64 ((rd_T30 l0 x5_1).f4.f1)) ∧ w'.cell? ⟨(ad160.add ((x5_1).toNat * 12)).block, (ad160.add ((x5_1).toNat * 12)).off + 9, none⟩ = some (.int .i64 ((rd_T30 l0 x5_1).f5)) ∧ w'.cell? ⟨(ad160.add ((x5_1).toNat * 12)).block, (ad160.add ((x5_1).toNat * 12)).off + 10, none⟩ = some (.bool ((rd_T30 l0 x5_1).f6)) ∧ w'.cell? ⟨(ad160.add ((x5_1).toNat * 12)).block, (ad160.add ((x5_1).toNat * 12)).off + 11, none⟩ = some (.string ((rd_T30 l0 x5_1).f7))) (ds := []) qx13_0 (by kernel_rfl) rfl rfl ⟨(blk_cell BK159.out 0).trans rfl, (blk_cell BK159.out 1).trans rfl, (blk_cell BK159.out 2).trans rfl, (blk_cell BK159.out 3).trans rfl, (blk_cell BK159.out 4).trans rfl, (blk_cell BK159.out 5).trans rfl, (blk_cell BK159.out 6).trans rfl, (blk_cell BK159.out 7).trans rfl, (blk_cell BK159.out 8).trans rfl, (blk_cell BK159.out 9).trans rfl, (blk_cell BK159.out 10).trans rfl, (blk_cell BK159.out 11).trans rfl, hx160_0, hx160_1, hx160_2, hx160_3, hx160_4, hx160_5, hx160_6, hx160_7, hx160_8, hx160_9, hx160_10, hx160_11⟩ (fun hHeld => ?_); refine with_tabW spec_insertOp.tab2 spec_insertOp.bits2 (fun HT_ HW_ => ?_)
      generalize wr.drew = w8 at HO_0 BK159 HK HB hx160_0 hx160_1 hx160_10 hx160_11 hx160_2 hx160_3 hx160_4 hx160_5 hx160_6 hx160_7 hx160_8 hx160_9 hHeld ⊢
      refine pure_ (i := 0) (N := some 7) (v := ?_) (a' := ?_) qx13_1 rfl rfl (any_of HT_.out (by kernel_rfl)) (fun _ _ _ h => h) (Or.inl ⟨by rfl, ?_⟩) ?_ ?_
      rotate_left
      ·intro w'
       go_simp
       with_reducible rfl
      rotate_left
      ·simp only [putS]
       rfl
      refine pure_ (i := 1) (N := some 8) (v := ?_) (a' := ?_) qx13_2 rfl rfl (any_of HT_.out (by kernel_rfl)) (fun _ _ _ h => h) (Or.inl ⟨by rfl, ?_⟩) ?_ ?_
      rotate_left
      ·intro w'
       go_simp
       with_reducible rfl
      rotate_left
      ·simp only [putS]
       rfl
      refine pure_ (i := 2) (N := some 9) (v := ?_) (a' := ?_) qx13_3 rfl rfl (any_of HT_.out (by kernel_rfl)) (fun _ _ _ h => h) (Or.inl ⟨by rfl, ?_⟩) ?_ ?_
      rotate_left
      ·intro w'
       go_simp
       with_reducible rfl
      rotate_left
      ·simp only [putS]
       rfl
      refine pure_ (i := 3) (N := some 10) (v := ?_) (a' := ?_) qx13_4 rfl rfl (any_of HT_.out (by kernel_rfl)) (fun _ _ _ h => h) (Or.inl ⟨by rfl, ?_⟩) ?_ ?_
      rotate_left
      ·intro w'
       go_simp
       with_reducible rfl
      rotate_left
      ·simp only [putS]
       rfl
      refine pure_ (i := 4) (N := some 11) (v := ?_) (a' := ?_) qx13_5 rfl rfl (any_of HT_.out (by kernel_rfl)) (fun _ _ _ h => h) (Or.inl ⟨by rfl, ?_⟩) ?_ ?_
      rotate_left
      ·intro w'
       go_simp
       with_reducible rfl
      rotate_left
      ·simp only [putS]
       rfl
      refine pure_ (i := 5) (N := some 12) (v := ?_) (a' := ?_) qx13_6 rfl rfl (any_of HT_.out (by kernel_rfl)) (fun _ _ _ h => h) (Or.inl ⟨by rfl, ?_⟩) ?_ ?_
      rotate_left
      ·intro w'
       go_simp
       with_reducible rfl
      rotate_left
      ·simp only [putS]
       rfl
      refine pure_ (i := 6) (N := some 13) (v := ?_) (a' := ?_) qx13_7 rfl rfl (any_of HT_.out (by kernel_rfl)) (fun _ _ _ h => h) (Or.inl ⟨by rfl, ?_⟩) ?_ ?_
      rotate_left
      ·intro w'
       go_simp
       with_reducible rfl
      rotate_left
      ·simp only [putS]
       rfl
      refine pure_ (i := 7) (N := some 14) (v := ?_) (a' := ?_) qx13_8 rfl rfl (any_of HT_.out (by kernel_rfl)) (fun _ _ _ h => h) (Or.inl ⟨by rfl, ?_⟩) ?_ ?_
      rotate_left
      ·intro w'
       go_simp
       with_reducible rfl
      rotate_left
      ·simp only [putS]
       rfl
      refine pure_ (i := 8) (N := some 15) (v := ?_) (a' := ?_) qx13_9 rfl rfl (any_of HT_.out (by kernel_rfl)) (fun _ _ _ h => h) (Or.inl ⟨by rfl, ?_⟩) ?_ ?_
      rotate_left
      ·intro w'
       go_simp
       with_reducible rfl
      rotate_left
      ·simp only [putS]
       rfl
      refine pure_ (i := 10) (N := some 17) (v := ?_) (a' := ?_) qx13_14 rfl rfl (any_of HT_.out (by kernel_rfl)) (fun _ _ _ h => h) (Or.inl ⟨by rfl, ?_⟩) ?_ ?_
      rotate_left
      ·intro w'
       go_simp
       with_reducible rfl
      rotate_left
      ·simp only [putS]
       rfl
      refine take_ (i := 9) (N := some 16) (v := ?_) (a' := ?_) qx13_10 rfl rfl (take_ofW HT_.out HW_.out (by kernel_rfl)) (fun _ _ _ h => h) (Or.inl ⟨by rfl, ?_⟩) hHeld ?_ ?_
      rotate_left
      ·rintro w' ⟨s0, s1, s2, s3, s4, s5, s6, s7, s8, s9, s10, s11, s12, s13, s14, s15, s16, s17, s18, s19, s20, s21, s22, s23⟩
       go_simp
       with_reducible rfl
      rotate_left
      ·simp only [putS]
       rfl
      refine take_ (i := 11) (N := some 18) (v := ?_) (a' := ?_) qx13_11 rfl rfl (take_ofW HT_.out HW_.out (by kernel_rfl)) (fun _ _ _ h => h) (Or.inl ⟨by rfl, ?_⟩) hHeld ?_ ?_
      rotate_left
      ·rintro w' ⟨s0, s1, s2, s3, s4, s5, s6, s7, s8, s9, s10, s11, s12, s13, s14, s15, s16, s17, s18, s19, s20, s21, s22, s23⟩
       go_simp
       with_reducible rfl
      rotate_left
      ·simp only [putS]
       rfl
      refine one_ (i := 12) (N := some 19) qx13_12 rfl rfl (one_of HT_.out (by kernel_rfl)) (by decide) (fun K hK => ?_)
      refine goes_ Try.func67 (by kernel_rfl) rfl #[.agg #[.int .i64 ((rd_T30 l0 x5_1).f0.f0), .int .i64 ((rd_T30 l0 x5_1).f0.f1)], .agg #[.int .i64 a1_0, .int .i64 a1_1]] (by rfl) rfl rfl (by (try simp only [List.map_toArray, List.map_cons, List.map_nil]); first | done | rfl | (simp only [List.length_drop, List.length_take]; rfl)) ?_
      with_reducible refine (spec_stampLess.calls ((rd_T30 l0 x5_1).f0.f0) ((rd_T30 l0 x5_1).f0.f1) a1_0 a1_1 true _ A6.out).mono ?_
      rintro e w10 ⟨rfl, hb⟩
      have HS12_ := (hb.cell (World.block_lt_of_cell? _ _ (hHeld.2.2.2.2.2.2.2.2.2.2.2.2.1))).trans (hHeld.2.2.2.2.2.2.2.2.2.2.2.2.1)
      have HS13_ := (hb.cell (World.block_lt_of_cell? _ _ (hHeld.2.2.2.2.2.2.2.2.2.2.2.2.2.1))).trans (hHeld.2.2.2.2.2.2.2.2.2.2.2.2.2.1)
      have HS14_ := (hb.cell (World.block_lt_of_cell? _ _ (hHeld.2.2.2.2.2.2.2.2.2.2.2.2.2.2.1))).trans (hHeld.2.2.2.2.2.2.2.2.2.2.2.2.2.2.1)
      have HS15_ := (hb.cell (World.block_lt_of_cell? _ _ (hHeld.2.2.2.2.2.2.2.2.2.2.2.2.2.2.2.1))).trans (hHeld.2.2.2.2.2.2.2.2.2.2.2.2.2.2.2.1)
      have HS16_ := (hb.cell (World.block_lt_of_cell? _ _ (hHeld.2.2.2.2.2.2.2.2.2.2.2.2.2.2.2.2.1))).trans (hHeld.2.2.2.2.2.2.2.2.2.2.2.2.2.2.2.2.1)
      have HS17_ := (hb.cell (World.block_lt_of_cell? _ _ (hHeld.2.2.2.2.2.2.2.2.2.2.2.2.2.2.2.2.2.1))).trans (hHeld.2.2.2.2.2.2.2.2.2.2.2.2.2.2.2.2.2.1)
      have HS18_ := (hb.cell (World.block_lt_of_cell? _ _ (hHeld.2.2.2.2.2.2.2.2.2.2.2.2.2.2.2.2.2.2.1))).trans (hHeld.2.2.2.2.2.2.2.2.2.2.2.2.2.2.2.2.2.2.1)
      have HS19_ := (hb.cell (World.block_lt_of_cell? _ _ (hHeld.2.2.2.2.2.2.2.2.2.2.2.2.2.2.2.2.2.2.2.1))).trans (hHeld.2.2.2.2.2.2.2.2.2.2.2.2.2.2.2.2.2.2.2.1)
      have HS20_ := (hb.cell (World.block_lt_of_cell? _ _ (hHeld.2.2.2.2.2.2.2.2.2.2.2.2.2.2.2.2.2.2.2.2.1))).trans (hHeld.2.2.2.2.2.2.2.2.2.2.2.2.2.2.2.2.2.2.2.2.1)
      have HS21_ := (hb.cell (World.block_lt_of_cell? _ _ (hHeld.2.2.2.2.2.2.2.2.2.2.2.2.2.2.2.2.2.2.2.2.2.1))).trans (hHeld.2.2.2.2.2.2.2.2.2.2.2.2.2.2.2.2.2.2.2.2.2.1)
      have HS22_ := (hb.cell (World.block_lt_of_cell? _ _ (hHeld.2.2.2.2.2.2.2.2.2.2.2.2.2.2.2.2.2.2.2.2.2.2.1))).trans (hHeld.2.2.2.2.2.2.2.2.2.2.2.2.2.2.2.2.2.2.2.2.2.2.1)
      have HS23_ := (hb.cell (World.block_lt_of_cell? _ _ (hHeld.2.2.2.2.2.2.2.2.2.2.2.2.2.2.2.2.2.2.2.2.2.2.2))).trans (hHeld.2.2.2.2.2.2.2.2.2.2.2.2.2.2.2.2.2.2.2.2.2.2.2)
      refine ⟨_, rfl, ?_⟩
      have n0_ := Aside0.mk (Kd.R_below (by (with_reducible repeat (first | apply Kd.R_alloc | apply Kd.R_drewN | apply Kd.R_drew)); exact HO_0.out) hb)
      have n1_ := Aside0.mk (blk_below (g := gb159) (o := .cells #[.int .i64 a1_0, .int .i64 a1_1, .int .i64 a1_2, .int .i64 a1_3, .int .i64 a1_4, .int .i64 a1_5, .int .i64 a1_6, .int .i64 a1_7, .int .i64 a1_8, .int .i64 a1_9, .bool a1_10, .string a1_11] 30 (0, 0)) (by (with_reducible repeat (first | refine blk_drewN ?_ _ | refine blk_drew ?_ | refine blk_alloc ?_ _)); exact BK159.out) hb)
      have n2_ := Aside0.mk (Kept.below (S := (fun k_ => P0_ k_)) (by repeat (first | (with_reducible first | exact HK.out | apply Kept.alloc | apply Kept.drewN | apply Kept.drew | refine Kept.setCell ?_ (.inr GW159.out) _) | exact HK.out)) hb)
      have n3_ := Aside0.mk (below_step (by repeat (first | (with_reducible first | exact HB.out | apply below_alloc | apply pw_below_drewN | apply below_drew1 | refine below_set ?_ GE159.out) | exact HB.out)) hb)
      clear HO_0
      clear BK159
      clear HK
      clear HB
      have HO_0 := n0_
      have BK159 := n1_
      have HK := n2_
      have HB := n3_
      clear n0_ n1_ n2_ n3_
      (try clear hb)
      (try clear hb2)
      (try clear hk)
      (try clear hi)
      refine hK.out _ _ ⟨(blk_cell BK159.out 0).trans rfl, (blk_cell BK159.out 1).trans rfl, (blk_cell BK159.out 2).trans rfl, (blk_cell BK159.out 3).trans rfl, (blk_cell BK159.out 4).trans rfl, (blk_cell BK159.out 5).trans rfl, (blk_cell BK159.out 6).trans rfl, (blk_cell BK159.out 7).trans rfl, (blk_cell BK159.out 8).trans rfl, (blk_cell BK159.out 9).trans rfl, (blk_cell BK159.out 10).trans rfl, (blk_cell BK159.out 11).trans rfl, HS12_, HS13_, HS14_, HS15_, HS16_, HS17_, HS18_, HS19_, HS20_, HS21_, HS22_, HS23_⟩ (fun hHeld => ?_)
      clear hK K
      refine norm_ (a' := ?_) ?_ ?_
      rotate_left
      ·show Act.put _ (some 19) _ = _
       simp only [putS]
       rfl
      refine pure_ (i := 13) (N := some 20) (v := ?_) (a' := ?_) qx13_13 rfl rfl (any_of HT_.out (by kernel_rfl)) (fun _ _ _ h => h) (Or.inl ⟨by rfl, ?_⟩) ?_ ?_
      rotate_left
      ·intro w'
       go_simp
       with_reducible rfl
      rotate_left
      ·simp only [putS]
       rfl
      refine done_ (done_of HT_.out (by kernel_rfl)) ?_
      try go_wp2
      go_roundg k1
      case measure => have := HK1.out; omega
      case rel => exact ⟨(wrap64 (x5_1 + 1)), (by first | rfl | (simp; done) | (simp [*]; done)), H', ⟨by have := HK1.out; omega⟩, ⟨by (with_reducible repeat (first | apply Kd.R_alloc | apply Kd.R_drewN | apply Kd.R_drew)); exact HO_0.out⟩, ⟨by (with_reducible repeat (first | refine blk_drewN ?_ _ | refine blk_drew ?_ | refine blk_alloc ?_ _)); exact BK159.out⟩, ⟨by repeat (first | (with_reducible first | exact HK.out | apply Kept.alloc | apply Kept.drewN | apply Kept.drew | refine Kept.setCell ?_ (.inr GW159.out) _) | exact HK.out)⟩, ⟨by repeat (first | (with_reducible first | exact HB.out | apply below_alloc | apply pw_below_drewN | apply below_drew1 | refine below_set ?_ GE159.out) | exact HB.out)⟩⟩
     ·replace c7 := Bool.eq_false_iff.mpr c7
      subst c7
      have H1 : (if (((rd_T30 l0 x5_1).f0.f0) == a1_0 && (((rd_T30 l0 x5_1).f0.f1) == a1_1)) = true then (some l0) else ((some (([] : List (S30)) : List (S30))).bind fun y163 => (if x5_1 ≤ (l0.length : Int) then ((some (l0.take (x5_1 : Int).toNat : List (S30))).bind fun y166 => (if y163.length + y166.length < 1353245080339 then ((some (y163 ++ y166 : List (S30))).bind fun y170 => (if y170.length < 1353245080339 then ((some (y170 ++ [(⟨(⟨a1_0, a1_1⟩ : S28), a1_2, (⟨a1_3, a1_4⟩ : S28), (⟨a1_5, a1_6⟩ : S28), (⟨a1_7, a1_8⟩ : S28), a1_9, a1_10, a1_11⟩ : S30)] : List (S30))).bind fun y173 => ((some (l0.drop (x5_1 : Int).toNat : List (S30))).bind fun y176 => (if y173.length + y176.length < 1353245080339 then (some (y173 ++ y176)) else (none)))) else (none))) else (none))) else (none)))) = some r := by rw [if_neg (show ¬ (false = true) by decide)] at H; exact H
      clear H
      have H := H1
      clear H1
      by_cases c11 : (((rd_T30 l0 x5_1).f0.f0) == a1_0 && (((rd_T30 l0 x5_1).f0.f1) == a1_1)) = true
      ·rw [if_pos c11] at H
       have c11b0 : (((rd_T30 l0 x5_1).f0.f0) == a1_0 && (((rd_T30 l0 x5_1).f0.f1) == a1_1)) = true := c11
       (try (have c11b1 : decide (((rd_T30 l0 x5_1).f0.f0) = a1_0 && (((rd_T30 l0 x5_1).f0.f1) == a1_1)) = true := by simpa using c11))
       (try (have c11b2 : (((rd_T30 l0 x5_1).f0.f0) == a1_0 && (((rd_T30 l0 x5_1).f0.f1) == a1_1)) = true := by simpa using c11))
       clear c11
       obtain rfl := Option.some.inj H
       try go_wp2
       have n0_ := Aside0.mk (Kd.R_drew HO_0.out)
       have n1_ := Aside0.mk (blk_drew BK159.out)
       have n2_ := Aside0.mk (Kept.drew HK.out)
       have n3_ := Aside0.mk (below_drew1 HB.out)
       clear HO_0
       clear BK159
       clear HK
       clear HB
       have HO_0 := n0_
       have BK159 := n1_
       have HK := n2_
       have HB := n3_
       clear n0_ n1_ n2_ n3_
       obtain ⟨Ao13, co13, eo13⟩ := Kd.R_slice HO_0.out
       (first | subst eo13 | (injection eo13 with f1_ f2_ f3_; have f4_ := f1_.symm; have f5_ := f3_.symm; clear f1_ f2_ f3_; subst f4_; subst f5_))
       have p160 : 0 ≤ (x5_1 : Int) := of_decide_eq_true (by first | (with_reducible assumption) | assumption)
       have q160 : x5_1 < (l0.length : Int) := of_decide_eq_true (by first | (with_reducible assumption) | assumption)
       obtain ⟨ad160, e160, hx160_0, hx160_1, hx160_2, hx160_3, hx160_4, hx160_5, hx160_6, hx160_7, hx160_8, hx160_9, hx160_10, hx160_11⟩ := at_T30 (Kd.R_reads' HO_0.out).2.2 x5_1 p160 q160
       cases e160
       replace p160 := eq_true p160
       replace q160 := eq_true q160
       refine start_ (n := 14) (S := fun w' => w'.cell? ⟨gb159, 0, none⟩ = some (.int .i64 a1_0) ∧ w'.cell? ⟨gb159, 1, none⟩ = some (.int .i64 a1_1) ∧ w'.cell? ⟨gb159, 2, none⟩ = some (.int .i64 a1_2) ∧ w'.cell? ⟨gb159, 3, none⟩ = some (.int .i64 a1_3) ∧ w'.cell? ⟨gb159, 4, none⟩ = some (.int .i64 a1_4) ∧ w'.cell? ⟨gb159, 5, none⟩ = some (.int .i64 a1_5) ∧ w'.cell? ⟨gb159, 6, none⟩ = some (.int .i64 a1_6) ∧ w'.cell? ⟨gb159, 7, none⟩ = some (.int .i64 a1_7) ∧ w'.cell? ⟨gb159, 8, none⟩ = some (.int .i64 a1_8) ∧ w'.cell? ⟨gb159, 9, none⟩ = some (.int .i64 a1_9) ∧ w'.cell? ⟨gb159, 10, none⟩ = some (.bool a1_10) ∧ w'.cell? ⟨gb159, 11, none⟩ = some (.string a1_11) ∧ w'.cell? (ad160.add ((x5_1).toNat * 12)) = some (.int .i64 ((rd_T30 l0 x5_1).f0.f0)) ∧ w'.cell? ⟨(ad160.add ((x5_1).toNat * 12)).block, (ad160.add ((x5_1).toNat * 12)).off + 1, none⟩ = some (.int .i64 ((rd_T30 l0 x5_1).f0.f1)) ∧ w'.cell? ⟨(ad160.add ((x5_1).toNat * 12)).block, (ad160.add ((x5_1).toNat * 12)).off + 2, none⟩ = some (.int .i64 ((rd_T30 l0 x5_1).f1)) ∧ w'.cell? ⟨(ad160.add ((x5_1).toNat * 12)).block, (ad160.add ((x5_1).toNat * 12)).off + 3, none⟩ = some (.int .i64 ((rd_T30 l0 x5_1).f2.f0)) ∧ w'.cell? ⟨(ad160.add ((x5_1).toNat * 12)).block, (ad160.add ((x5_1).toNat * 12)).off + 4, none⟩ = some (.int .i64 ((rd_T30 l0 x5_1).f2.f1)) ∧ w'.cell? ⟨(ad160.add ((x5_1).toNat * 12)).block, (ad160.add ((x5_1).toNat * 12)).off + 5, none⟩ = some (.int .i64 ((rd_T30 l0 x5_1).f3.f0)) ∧ w'.cell? ⟨(ad160.add ((x5_1).toNat * 12)).block, (ad160.add ((x5_1).toNat * 12)).off + 6, none⟩ = some (.int .i64 ((rd_T30 l0 x5_1).f3.f1)) ∧ w'.cell? ⟨(ad160.add ((x5_1).toNat * 12)).block, (ad160.add ((x5_1).toNat * 12)).off + 7, none⟩ = some (.int .i64 ((rd_T30 l0 x5_1).f4.f0)) ∧ w'.cell? ⟨(ad160.add ((x5_1).toNat * 12)).block, (ad160.add ((x5_1).toNat * 12)).off + 8, none⟩ = some (.int .i64 ((rd_T30 l0 x5_1).f4.f1)) ∧ w'.cell? ⟨(ad160.add ((x5_1).toNat * 12)).block, (ad160.add ((x5_1).toNat * 12)).off + 9, none⟩ = some (.int .i64 ((rd_T30 l0 x5_1).f5)) ∧ w'.cell? ⟨(ad160.add ((x5_1).toNat * 12)).block, (ad160.add ((x5_1).toNat * 12)).off + 10, none⟩ = some (.bool ((rd_T30 l0 x5_1).f6)) ∧ w'.cell? ⟨(ad160.add ((x5_1).toNat * 12)).block, (ad160.add ((x5_1).toNat * 12)).off + 11, none⟩ = some (.string ((rd_T30 l0 x5_1).f7))) (ds := []) qx13_0 (by kernel_rfl) rfl rfl ⟨(blk_cell BK159.out 0).trans rfl, (blk_cell BK159.out 1).trans rfl, (blk_cell BK159.out 2).trans rfl, (blk_cell BK159.out 3).trans rfl, (blk_cell BK159.out 4).trans rfl, (blk_cell BK159.out 5).trans rfl, (blk_cell BK159.out 6).trans rfl, (blk_cell BK159.out 7).trans rfl, (blk_cell BK159.out 8).trans rfl, (blk_cell BK159.out 9).trans rfl, (blk_cell BK159.out 10).trans rfl, (blk_cell BK159.out 11).trans rfl, hx160_0, hx160_1, hx160_2, hx160_3, hx160_4, hx160_5, hx160_6, hx160_7, hx160_8, hx160_9, hx160_10, hx160_11⟩ (fun hHeld => ?_); refine with_tabW spec_insertOp.tab2 spec_insertOp.bits2 (fun HT_ HW_ => ?_)
       generalize wr.drew = w12 at HO_0 BK159 HK HB hx160_0 hx160_1 hx160_10 hx160_11 hx160_2 hx160_3 hx160_4 hx160_5 hx160_6 hx160_7 hx160_8 hx160_9 hHeld ⊢
       refine pure_ (i := 0) (N := some 7) (v := ?_) (a' := ?_) qx13_1 rfl rfl (any_of HT_.out (by kernel_rfl)) (fun _ _ _ h => h) (Or.inl ⟨by rfl, ?_⟩) ?_ ?_
       rotate_left
       ·intro w'
        go_simp
        with_reducible rfl
       rotate_left
       ·simp only [putS]
        rfl
       refine pure_ (i := 1) (N := some 8) (v := ?_) (a' := ?_) qx13_2 rfl rfl (any_of HT_.out (by kernel_rfl)) (fun _ _ _ h => h) (Or.inl ⟨by rfl, ?_⟩) ?_ ?_
       rotate_left
       ·intro w'
        go_simp
        with_reducible rfl
       rotate_left
       ·simp only [putS]
        rfl
       refine pure_ (i := 2) (N := some 9) (v := ?_) (a' := ?_) qx13_3 rfl rfl (any_of HT_.out (by kernel_rfl)) (fun _ _ _ h => h) (Or.inl ⟨by rfl, ?_⟩) ?_ ?_
       rotate_left
       ·intro w'
        go_simp
        with_reducible rfl
       rotate_left
       ·simp only [putS]
        rfl
       refine pure_ (i := 3) (N := some 10) (v := ?_) (a' := ?_) qx13_4 rfl rfl (any_of HT_.out (by kernel_rfl)) (fun _ _ _ h => h) (Or.inl ⟨by rfl, ?_⟩) ?_ ?_
       rotate_left
       ·intro w'
        go_simp
        with_reducible rfl
       rotate_left
       ·simp only [putS]
        rfl
       refine pure_ (i := 4) (N := some 11) (v := ?_) (a' := ?_) qx13_5 rfl rfl (any_of HT_.out (by kernel_rfl)) (fun _ _ _ h => h) (Or.inl ⟨by rfl, ?_⟩) ?_ ?_
       rotate_left
       ·intro w'
        go_simp
        with_reducible rfl
       rotate_left
       ·simp only [putS]
        rfl
       refine pure_ (i := 5) (N := some 12) (v := ?_) (a' := ?_) qx13_6 rfl rfl (any_of HT_.out (by kernel_rfl)) (fun _ _ _ h => h) (Or.inl ⟨by rfl, ?_⟩) ?_ ?_
       rotate_left
       ·intro w'
        go_simp
        with_reducible rfl
       rotate_left
       ·simp only [putS]
        rfl
       refine pure_ (i := 6) (N := some 13) (v := ?_) (a' := ?_) qx13_7 rfl rfl (any_of HT_.out (by kernel_rfl)) (fun _ _ _ h => h) (Or.inl ⟨by rfl, ?_⟩) ?_ ?_
       rotate_left
       ·intro w'
        go_simp
        with_reducible rfl
       rotate_left
       ·simp only [putS]
        rfl
       refine pure_ (i := 7) (N := some 14) (v := ?_) (a' := ?_) qx13_8 rfl rfl (any_of HT_.out (by kernel_rfl)) (fun _ _ _ h => h) (Or.inl ⟨by rfl, ?_⟩) ?_ ?_
       rotate_left
       ·intro w'
        go_simp
        with_reducible rfl
       rotate_left
       ·simp only [putS]
        rfl
       refine pure_ (i := 8) (N := some 15) (v := ?_) (a' := ?_) qx13_9 rfl rfl (any_of HT_.out (by kernel_rfl)) (fun _ _ _ h => h) (Or.inl ⟨by rfl, ?_⟩) ?_ ?_
       rotate_left
       ·intro w'
        go_simp
        with_reducible rfl
       rotate_left
       ·simp only [putS]
        rfl
       refine pure_ (i := 10) (N := some 17) (v := ?_) (a' := ?_) qx13_14 rfl rfl (any_of HT_.out (by kernel_rfl)) (fun _ _ _ h => h) (Or.inl ⟨by rfl, ?_⟩) ?_ ?_
       rotate_left
       ·intro w'
        go_simp
        with_reducible rfl
       rotate_left
       ·simp only [putS]
        rfl
       refine take_ (i := 9) (N := some 16) (v := ?_) (a' := ?_) qx13_10 rfl rfl (take_ofW HT_.out HW_.out (by kernel_rfl)) (fun _ _ _ h => h) (Or.inl ⟨by rfl, ?_⟩) hHeld ?_ ?_
       rotate_left
       ·rintro w' ⟨s0, s1, s2, s3, s4, s5, s6, s7, s8, s9, s10, s11, s12, s13, s14, s15, s16, s17, s18, s19, s20, s21, s22, s23⟩
        go_simp
        with_reducible rfl
       rotate_left
       ·simp only [putS]
        rfl
       refine take_ (i := 11) (N := some 18) (v := ?_) (a' := ?_) qx13_11 rfl rfl (take_ofW HT_.out HW_.out (by kernel_rfl)) (fun _ _ _ h => h) (Or.inl ⟨by rfl, ?_⟩) hHeld ?_ ?_
       rotate_left
       ·rintro w' ⟨s0, s1, s2, s3, s4, s5, s6, s7, s8, s9, s10, s11, s12, s13, s14, s15, s16, s17, s18, s19, s20, s21, s22, s23⟩
        go_simp
        with_reducible rfl
       rotate_left
       ·simp only [putS]
        rfl
       refine one_ (i := 12) (N := some 19) qx13_12 rfl rfl (one_of HT_.out (by kernel_rfl)) (by decide) (fun K hK => ?_)
       refine goes_ Try.func67 (by kernel_rfl) rfl #[.agg #[.int .i64 ((rd_T30 l0 x5_1).f0.f0), .int .i64 ((rd_T30 l0 x5_1).f0.f1)], .agg #[.int .i64 a1_0, .int .i64 a1_1]] (by rfl) rfl rfl (by (try simp only [List.map_toArray, List.map_cons, List.map_nil]); first | done | rfl | (simp only [List.length_drop, List.length_take]; rfl)) ?_
       with_reducible refine (spec_stampLess.calls ((rd_T30 l0 x5_1).f0.f0) ((rd_T30 l0 x5_1).f0.f1) a1_0 a1_1 false _ A6.out).mono ?_
       rintro e w14 ⟨rfl, hb⟩
       have HS12_ := (hb.cell (World.block_lt_of_cell? _ _ (hHeld.2.2.2.2.2.2.2.2.2.2.2.2.1))).trans (hHeld.2.2.2.2.2.2.2.2.2.2.2.2.1)
       have HS13_ := (hb.cell (World.block_lt_of_cell? _ _ (hHeld.2.2.2.2.2.2.2.2.2.2.2.2.2.1))).trans (hHeld.2.2.2.2.2.2.2.2.2.2.2.2.2.1)
       have HS14_ := (hb.cell (World.block_lt_of_cell? _ _ (hHeld.2.2.2.2.2.2.2.2.2.2.2.2.2.2.1))).trans (hHeld.2.2.2.2.2.2.2.2.2.2.2.2.2.2.1)
       have HS15_ := (hb.cell (World.block_lt_of_cell? _ _ (hHeld.2.2.2.2.2.2.2.2.2.2.2.2.2.2.2.1))).trans (hHeld.2.2.2.2.2.2.2.2.2.2.2.2.2.2.2.1)
       have HS16_ := (hb.cell (World.block_lt_of_cell? _ _ (hHeld.2.2.2.2.2.2.2.2.2.2.2.2.2.2.2.2.1))).trans (hHeld.2.2.2.2.2.2.2.2.2.2.2.2.2.2.2.2.1)
       have HS17_ := (hb.cell (World.block_lt_of_cell? _ _ (hHeld.2.2.2.2.2.2.2.2.2.2.2.2.2.2.2.2.2.1))).trans (hHeld.2.2.2.2.2.2.2.2.2.2.2.2.2.2.2.2.2.1)
       have HS18_ := (hb.cell (World.block_lt_of_cell? _ _ (hHeld.2.2.2.2.2.2.2.2.2.2.2.2.2.2.2.2.2.2.1))).trans (hHeld.2.2.2.2.2.2.2.2.2.2.2.2.2.2.2.2.2.2.1)
       have HS19_ := (hb.cell (World.block_lt_of_cell? _ _ (hHeld.2.2.2.2.2.2.2.2.2.2.2.2.2.2.2.2.2.2.2.1))).trans (hHeld.2.2.2.2.2.2.2.2.2.2.2.2.2.2.2.2.2.2.2.1)
       have HS20_ := (hb.cell (World.block_lt_of_cell? _ _ (hHeld.2.2.2.2.2.2.2.2.2.2.2.2.2.2.2.2.2.2.2.2.1))).trans (hHeld.2.2.2.2.2.2.2.2.2.2.2.2.2.2.2.2.2.2.2.2.1)
       have HS21_ := (hb.cell (World.block_lt_of_cell? _ _ (hHeld.2.2.2.2.2.2.2.2.2.2.2.2.2.2.2.2.2.2.2.2.2.1))).trans (hHeld.2.2.2.2.2.2.2.2.2.2.2.2.2.2.2.2.2.2.2.2.2.1)
       have HS22_ := (hb.cell (World.block_lt_of_cell? _ _ (hHeld.2.2.2.2.2.2.2.2.2.2.2.2.2.2.2.2.2.2.2.2.2.2.1))).trans (hHeld.2.2.2.2.2.2.2.2.2.2.2.2.2.2.2.2.2.2.2.2.2.2.1)
       have HS23_ := (hb.cell (World.block_lt_of_cell? _ _ (hHeld.2.2.2.2.2.2.2.2.2.2.2.2.2.2.2.2.2.2.2.2.2.2.2))).trans (hHeld.2.2.2.2.2.2.2.2.2.2.2.2.2.2.2.2.2.2.2.2.2.2.2)
       refine ⟨_, rfl, ?_⟩
       have n0_ := Aside0.mk (Kd.R_below (by (with_reducible repeat (first | apply Kd.R_alloc | apply Kd.R_drewN | apply Kd.R_drew)); exact HO_0.out) hb)
       have n1_ := Aside0.mk (blk_below (g := gb159) (o := .cells #[.int .i64 a1_0, .int .i64 a1_1, .int .i64 a1_2, .int .i64 a1_3, .int .i64 a1_4, .int .i64 a1_5, .int .i64 a1_6, .int .i64 a1_7, .int .i64 a1_8, .int .i64 a1_9, .bool a1_10, .string a1_11] 30 (0, 0)) (by (with_reducible repeat (first | refine blk_drewN ?_ _ | refine blk_drew ?_ | refine blk_alloc ?_ _)); exact BK159.out) hb)
       have n2_ := Aside0.mk (Kept.below (S := (fun k_ => P0_ k_)) (by repeat (first | (with_reducible first | exact HK.out | apply Kept.alloc | apply Kept.drewN | apply Kept.drew | refine Kept.setCell ?_ (.inr GW159.out) _) | exact HK.out)) hb)
       have n3_ := Aside0.mk (below_step (by repeat (first | (with_reducible first | exact HB.out | apply below_alloc | apply pw_below_drewN | apply below_drew1 | refine below_set ?_ GE159.out) | exact HB.out)) hb)
       clear HO_0
       clear BK159
       clear HK
       clear HB
       have HO_0 := n0_
       have BK159 := n1_
       have HK := n2_
       have HB := n3_
       clear n0_ n1_ n2_ n3_
       (try clear hb)
       (try clear hb2)
       (try clear hk)
       (try clear hi)
       refine hK.out _ _ ⟨(blk_cell BK159.out 0).trans rfl, (blk_cell BK159.out 1).trans rfl, (blk_cell BK159.out 2).trans rfl, (blk_cell BK159.out 3).trans rfl, (blk_cell BK159.out 4).trans rfl, (blk_cell BK159.out 5).trans rfl, (blk_cell BK159.out 6).trans rfl, (blk_cell BK159.out 7).trans rfl, (blk_cell BK159.out 8).trans rfl, (blk_cell BK159.out 9).trans rfl, (blk_cell BK159.out 10).trans rfl, (blk_cell BK159.out 11).trans rfl, HS12_, HS13_, HS14_, HS15_, HS16_, HS17_, HS18_, HS19_, HS20_, HS21_, HS22_, HS23_⟩ (fun hHeld => ?_)
       clear hK K
       refine norm_ (a' := ?_) ?_ ?_
       rotate_left
       ·show Act.put _ (some 19) _ = _
        simp only [putS]
        rfl
       refine pure_ (i := 13) (N := some 20) (v := ?_) (a' := ?_) qx13_13 rfl rfl (any_of HT_.out (by kernel_rfl)) (fun _ _ _ h => h) (Or.inl ⟨by rfl, ?_⟩) ?_ ?_
       rotate_left
       ·intro w'
        go_simp
        with_reducible rfl
       rotate_left
       ·simp only [putS]
        rfl
       refine done_ (done_of HT_.out (by kernel_rfl)) ?_
       try go_wp2
       have n0_ := Aside0.mk (Kd.R_drew HO_0.out)
       have n1_ := Aside0.mk (blk_drew BK159.out)
       have n2_ := Aside0.mk (Kept.drew HK.out)
       have n3_ := Aside0.mk (below_drew1 HB.out)
       clear HO_0
       clear BK159
       clear HK
       clear HB
       have HO_0 := n0_
       have BK159 := n1_
       have HK := n2_
       have HB := n3_
       clear n0_ n1_ n2_ n3_
       have p162 : 0 ≤ (x5_1 : Int) := of_decide_eq_true (by first | (with_reducible assumption) | assumption)
       have q162 : x5_1 < (l0.length : Int) := of_decide_eq_true (by first | (with_reducible assumption) | assumption)
       obtain ⟨ad162, e162, hx162_0, hx162_1, hx162_2, hx162_3, hx162_4, hx162_5, hx162_6, hx162_7, hx162_8, hx162_9, hx162_10, hx162_11⟩ := at_T30 (Kd.R_reads' HO_0.out).2.2 x5_1 p162 q162
       obtain rfl : ad160 = ad162 := (by injection e162)
       replace p162 := eq_true p162
       replace q162 := eq_true q162
       refine start_ (n := 14) (S := fun w' => w'.cell? ⟨gb159, 0, none⟩ = some (.int .i64 a1_0) ∧ w'.cell? ⟨gb159, 1, none⟩ = some (.int .i64 a1_1) ∧ w'.cell? ⟨gb159, 2, none⟩ = some (.int .i64 a1_2) ∧ w'.cell? ⟨gb159, 3, none⟩ = some (.int .i64 a1_3) ∧ w'.cell? ⟨gb159, 4, none⟩ = some (.int .i64 a1_4) ∧ w'.cell? ⟨gb159, 5, none⟩ = some (.int .i64 a1_5) ∧ w'.cell? ⟨gb159, 6, none⟩ = some (.int .i64 a1_6) ∧ w'.cell? ⟨gb159, 7, none⟩ = some (.int .i64 a1_7) ∧ w'.cell? ⟨gb159, 8, none⟩ = some (.int .i64 a1_8) ∧ w'.cell? ⟨gb159, 9, none⟩ = some (.int .i64 a1_9) ∧ w'.cell? ⟨gb159, 10, none⟩ = some (.bool a1_10) ∧ w'.cell? ⟨gb159, 11, none⟩ = some (.string a1_11) ∧ w'.cell? (ad160.add ((x5_1).toNat * 12)) = some (.int .i64 ((rd_T30 l0 x5_1).f0.f0)) ∧ w'.cell? ⟨(ad160.add ((x5_1).toNat * 12)).block, (ad160.add ((x5_1).toNat * 12)).off + 1, none⟩ = some (.int .i64 ((rd_T30 l0 x5_1).f0.f1)) ∧ w'.cell? ⟨(ad160.add ((x5_1).toNat * 12)).block, (ad160.add ((x5_1).toNat * 12)).off + 2, none⟩ = some (.int .i64 ((rd_T30 l0 x5_1).f1)) ∧ w'.cell? ⟨(ad160.add ((x5_1).toNat * 12)).block, (ad160.add ((x5_1).toNat * 12)).off + 3, none⟩ = some (.int .i64 ((rd_T30 l0 x5_1).f2.f0)) ∧ w'.cell? ⟨(ad160.add ((x5_1).toNat * 12)).block, (ad160.add ((x5_1).toNat * 12)).off + 4, none⟩ = some (.int .i64 ((rd_T30 l0 x5_1).f2.f1)) ∧ w'.cell? ⟨(ad160.add ((x5_1).toNat * 12)).block, (ad160.add ((x5_1).toNat * 12)).off + 5, none⟩ = some (.int .i64 ((rd_T30 l0 x5_1).f3.f0)) ∧ w'.cell? ⟨(ad160.add ((x5_1).toNat * 12)).block, (ad160.add ((x5_1).toNat * 12)).off + 6, none⟩ = some (.int .i64 ((rd_T30 l0 x5_1).f3.f1)) ∧ w'.cell? ⟨(ad160.add ((x5_1).toNat * 12)).block, (ad160.add ((x5_1).toNat * 12)).off + 7, none⟩ = some (.int .i64 ((rd_T30 l0 x5_1).f4.f0)) ∧ w'.cell? ⟨(ad160.add ((x5_1).toNat * 12)).block, (ad160.add ((x5_1).toNat * 12)).off + 8, none⟩ = some (.int .i64 ((rd_T30 l0 x5_1).f4.f1)) ∧ w'.cell? ⟨(ad160.add ((x5_1).toNat * 12)).block, (ad160.add ((x5_1).toNat * 12)).off + 9, none⟩ = some (.int .i64 ((rd_T30 l0 x5_1).f5)) ∧ w'.cell? ⟨(ad160.add ((x5_1).toNat * 12)).block, (ad160.add ((x5_1).toNat * 12)).off + 10, none⟩ = some (.bool ((rd_T30 l0 x5_1).f6)) ∧ w'.cell? ⟨(ad160.add ((x5_1).toNat * 12)).block, (ad160.add ((x5_1).toNat * 12)).off + 11, none⟩ = some (.string ((rd_T30 l0 x5_1).f7))) (ds := []) qx13_0 (by kernel_rfl) rfl rfl ⟨(blk_cell BK159.out 0).trans rfl, (blk_cell BK159.out 1).trans rfl, (blk_cell BK159.out 2).trans rfl, (blk_cell BK159.out 3).trans rfl, (blk_cell BK159.out 4).trans rfl, (blk_cell BK159.out 5).trans rfl, (blk_cell BK159.out 6).trans rfl, (blk_cell BK159.out 7).trans rfl, (blk_cell BK159.out 8).trans rfl, (blk_cell BK159.out 9).trans rfl, (blk_cell BK159.out 10).trans rfl, (blk_cell BK159.out 11).trans rfl, hx162_0, hx162_1, hx162_2, hx162_3, hx162_4, hx162_5, hx162_6, hx162_7, hx162_8, hx162_9, hx162_10, hx162_11⟩ (fun hHeld => ?_); refine with_tabW spec_insertOp.tab4 spec_insertOp.bits4 (fun HT_ HW_ => ?_)
       generalize w14.drew = w15 at HO_0 BK159 HK HB hx162_0 hx162_1 hx162_10 hx162_11 hx162_2 hx162_3 hx162_4 hx162_5 hx162_6 hx162_7 hx162_8 hx162_9 hHeld ⊢
       refine pure_ (i := 0) (N := some 23) (v := ?_) (a' := ?_) qx13_1 rfl rfl (any_of HT_.out (by kernel_rfl)) (fun _ _ _ h => h) (Or.inl ⟨by rfl, ?_⟩) ?_ ?_
       rotate_left
       ·intro w'
        go_simp
        with_reducible rfl
       rotate_left
       ·simp only [putS]
        rfl
       refine pure_ (i := 1) (N := some 24) (v := ?_) (a' := ?_) qx13_2 rfl rfl (any_of HT_.out (by kernel_rfl)) (fun _ _ _ h => h) (Or.inl ⟨by rfl, ?_⟩) ?_ ?_
       rotate_left
       ·intro w'
        go_simp
        with_reducible rfl
       rotate_left
       ·simp only [putS]
        rfl
       refine pure_ (i := 2) (N := some 25) (v := ?_) (a' := ?_) qx13_3 rfl rfl (any_of HT_.out (by kernel_rfl)) (fun _ _ _ h => h) (Or.inl ⟨by rfl, ?_⟩) ?_ ?_
       rotate_left
       ·intro w'
        go_simp
        with_reducible rfl
       rotate_left
       ·simp only [putS]
        rfl
       refine pure_ (i := 3) (N := some 26) (v := ?_) (a' := ?_) qx13_4 rfl rfl (any_of HT_.out (by kernel_rfl)) (fun _ _ _ h => h) (Or.inl ⟨by rfl, ?_⟩) ?_ ?_
       rotate_left
       ·intro w'
        go_simp
        with_reducible rfl
       rotate_left
       ·simp only [putS]
        rfl
       refine pure_ (i := 4) (N := some 27) (v := ?_) (a' := ?_) qx13_5 rfl rfl (any_of HT_.out (by kernel_rfl)) (fun _ _ _ h => h) (Or.inl ⟨by rfl, ?_⟩) ?_ ?_
       rotate_left
       ·intro w'
        go_simp
        with_reducible rfl
       rotate_left
       ·simp only [putS]
        rfl
       refine pure_ (i := 5) (N := some 28) (v := ?_) (a' := ?_) qx13_6 rfl rfl (any_of HT_.out (by kernel_rfl)) (fun _ _ _ h => h) (Or.inl ⟨by rfl, ?_⟩) ?_ ?_
       rotate_left
       ·intro w'
        go_simp
        with_reducible rfl
       rotate_left
       ·simp only [putS]
        rfl
       refine pure_ (i := 6) (N := some 29) (v := ?_) (a' := ?_) qx13_7 rfl rfl (any_of HT_.out (by kernel_rfl)) (fun _ _ _ h => h) (Or.inl ⟨by rfl, ?_⟩) ?_ ?_
       rotate_left
       ·intro w'
        go_simp
        with_reducible rfl
       rotate_left
       ·simp only [putS]
        rfl
       refine pure_ (i := 7) (N := some 30) (v := ?_) (a' := ?_) qx13_8 rfl rfl (any_of HT_.out (by kernel_rfl)) (fun _ _ _ h => h) (Or.inl ⟨by rfl, ?_⟩) ?_ ?_
       rotate_left
       ·intro w'
        go_simp
        with_reducible rfl
       rotate_left
       ·simp only [putS]
        rfl
       refine pure_ (i := 8) (N := some 31) (v := ?_) (a' := ?_) qx13_9 rfl rfl (any_of HT_.out (by kernel_rfl)) (fun _ _ _ h => h) (Or.inl ⟨by rfl, ?_⟩) ?_ ?_
       rotate_left
       ·intro w'
        go_simp
        with_reducible rfl
       rotate_left
       ·simp only [putS]
        rfl
       refine pure_ (i := 10) (N := some 33) (v := ?_) (a' := ?_) qx13_14 rfl rfl (any_of HT_.out (by kernel_rfl)) (fun _ _ _ h => h) (Or.inl ⟨by rfl, ?_⟩) ?_ ?_
       rotate_left
       ·intro w'
        go_simp
        with_reducible rfl
       rotate_left
       ·simp only [putS]
        rfl
       refine take_ (i := 9) (N := some 32) (v := ?_) (a' := ?_) qx13_10 rfl rfl (take_ofW HT_.out HW_.out (by kernel_rfl)) (fun _ _ _ h => h) (Or.inl ⟨by rfl, ?_⟩) hHeld ?_ ?_
       rotate_left
       ·rintro w' ⟨s0, s1, s2, s3, s4, s5, s6, s7, s8, s9, s10, s11, s12, s13, s14, s15, s16, s17, s18, s19, s20, s21, s22, s23⟩
        go_simp
        with_reducible rfl
       rotate_left
       ·simp only [putS]
        rfl
       refine take_ (i := 11) (N := some 34) (v := ?_) (a' := ?_) qx13_11 rfl rfl (take_ofW HT_.out HW_.out (by kernel_rfl)) (fun _ _ _ h => h) (Or.inl ⟨by rfl, ?_⟩) hHeld ?_ ?_
       rotate_left
       ·rintro w' ⟨s0, s1, s2, s3, s4, s5, s6, s7, s8, s9, s10, s11, s12, s13, s14, s15, s16, s17, s18, s19, s20, s21, s22, s23⟩
        go_simp
        with_reducible rfl
       rotate_left
       ·simp only [putS]
        rfl
       refine pure_ (i := 12) (N := some 35) (v := ?_) (a' := ?_) qx13_12 rfl rfl (any_of HT_.out (by kernel_rfl)) (fun _ _ _ h => h) (Or.inl ⟨by rfl, ?_⟩) ?_ ?_
       rotate_left
       ·intro w'
        go_simp
        with_reducible rfl
       rotate_left
       ·simp only [putS]
        rfl
       refine pure_ (i := 13) (N := some 36) (v := ?_) (a' := ?_) qx13_13 rfl rfl (any_of HT_.out (by kernel_rfl)) (fun _ _ _ h => h) (Or.inl ⟨by rfl, ?_⟩) ?_ ?_
       rotate_left
       ·intro w'
        go_simp
        with_reducible rfl
       rotate_left
       ·simp only [putS]
        rfl
       refine done_ (done_of HT_.out (by kernel_rfl)) ?_
       try go_wp2
       go_ret
       exact ⟨_, by first | rfl | (simp [errW_none, errW_some] <;> rfl) | (simp [*, errW_none, errW_some] <;> rfl), by (with_reducible repeat (first | apply Kd.R_alloc | apply Kd.R_drewN | apply Kd.R_drew)); exact Kd.R_mono HO_0.out (fun _ hk => hk.1), by repeat (first | (with_reducible first | exact HB.out | apply below_alloc | apply pw_below_drewN | apply below_drew1 | refine below_set ?_ GE159.out) | exact HB.out), by repeat (first | (with_reducible first | exact HK.out | apply Kept.alloc | apply Kept.drewN | apply Kept.drew | refine Kept.setCell ?_ (.inr GW159.out) _) | exact HK.out)⟩
      ·rw [if_neg c11] at H
       have c11b0 : (((rd_T30 l0 x5_1).f0.f0) == a1_0 && (((rd_T30 l0 x5_1).f0.f1) == a1_1)) = false := by simpa using c11
       (try (have c11b1 : decide (((rd_T30 l0 x5_1).f0.f0) = a1_0 && (((rd_T30 l0 x5_1).f0.f1) == a1_1)) = false := by simpa using c11))
       (try (have c11b2 : (((rd_T30 l0 x5_1).f0.f0) == a1_0 && (((rd_T30 l0 x5_1).f0.f1) == a1_1)) = false := by simpa using c11))
       (try (have c11b3 : ¬ (((rd_T30 l0 x5_1).f0.f0) = a1_0 && (((rd_T30 l0 x5_1).f0.f1) == a1_1)) := by simpa using c11))
       clear c11
       obtain ⟨y163, hy163⟩ : ∃ y_ : List (S30), y_ = (([] : List (S30))) := ⟨_, rfl⟩
       replace H : (if x5_1 ≤ (l0.length : Int) then ((some (l0.take (x5_1 : Int).toNat : List (S30))).bind fun y166 => (if y163.length + y166.length < 1353245080339 then ((some (y163 ++ y166 : List (S30))).bind fun y170 => (if y170.length < 1353245080339 then ((some (y170 ++ [(⟨(⟨a1_0, a1_1⟩ : S28), a1_2, (⟨a1_3, a1_4⟩ : S28), (⟨a1_5, a1_6⟩ : S28), (⟨a1_7, a1_8⟩ : S28), a1_9, a1_10, a1_11⟩ : S30)] : List (S30))).bind fun y173 => ((some (l0.drop (x5_1 : Int).toNat : List (S30))).bind fun y176 => (if y173.length + y176.length < 1353245080339 then (some (y173 ++ y176)) else (none)))) else (none))) else (none))) else (none)) = some r := by first | (rw [hy163]; with_reducible exact H) | (have H2_ := (Option.bind_some _ _).symm.trans H; rw [hy163]; with_reducible exact H2_) | (have H2_ := (Option.bind_some _ _).symm.trans H; with_reducible exact H2_) | with_reducible exact H | (rw [hy163]; exact H) | exact H
       have Ny163 := Aside0.mk hy163
       clear hy163
       have c16b0 := eq_true (of_decide_eq_true (by first | (with_reducible assumption) | assumption) : 0 ≤ x5_1)
       by_cases c17 : x5_1 ≤ (l0.length : Int)
       ·rw [if_pos c17] at H
        have c17b0 := eq_true c17
        have c17b1 : decide (x5_1 ≤ (l0.length : Int)) = true := decide_eq_true c17
        clear c17
        obtain ⟨y166, hy166⟩ : ∃ y_ : List (S30), y_ = (l0.take (x5_1 : Int).toNat) := ⟨_, rfl⟩
        replace H : (if y163.length + y166.length < 1353245080339 then ((some (y163 ++ y166 : List (S30))).bind fun y170 => (if y170.length < 1353245080339 then ((some (y170 ++ [(⟨(⟨a1_0, a1_1⟩ : S28), a1_2, (⟨a1_3, a1_4⟩ : S28), (⟨a1_5, a1_6⟩ : S28), (⟨a1_7, a1_8⟩ : S28), a1_9, a1_10, a1_11⟩ : S30)] : List (S30))).bind fun y173 => ((some (l0.drop (x5_1 : Int).toNat : List (S30))).bind fun y176 => (if y173.length + y176.length < 1353245080339 then (some (y173 ++ y176)) else (none)))) else (none))) else (none)) = some r := by first | (rw [hy166]; with_reducible exact H) | (have H2_ := (Option.bind_some _ _).symm.trans H; rw [hy166]; with_reducible exact H2_) | (have H2_ := (Option.bind_some _ _).symm.trans H; with_reducible exact H2_) | with_reducible exact H | (rw [hy166]; exact H) | exact H
        have Ny166 := Aside0.mk hy166
        clear hy166
        by_cases c18 : y163.length + y166.length < 1353245080339
        ·rw [if_pos c18] at H
         have LMc18 := Aside0.mk c18
         clear c18
         obtain ⟨y170, hy170⟩ : ∃ y_ : List (S30), y_ = (y163 ++ y166) := ⟨_, rfl⟩
         replace H : (if y170.length < 1353245080339 then ((some (y170 ++ [(⟨(⟨a1_0, a1_1⟩ : S28), a1_2, (⟨a1_3, a1_4⟩ : S28), (⟨a1_5, a1_6⟩ : S28), (⟨a1_7, a1_8⟩ : S28), a1_9, a1_10, a1_11⟩ : S30)] : List (S30))).bind fun y173 => ((some (l0.drop (x5_1 : Int).toNat : List (S30))).bind fun y176 => (if y173.length + y176.length < 1353245080339 then (some (y173 ++ y176)) else (none)))) else (none)) = some r := by first | (rw [hy170]; with_reducible exact H) | (have H2_ := (Option.bind_some _ _).symm.trans H; rw [hy170]; with_reducible exact H2_) | (have H2_ := (Option.bind_some _ _).symm.trans H; with_reducible exact H2_) | with_reducible exact H | (rw [hy170]; exact H) | exact H
         have Ny170 := Aside0.mk hy170
         clear hy170
         by_cases c19 : y170.length < 1353245080339
         ·rw [if_pos c19] at H
          have LMc19 := Aside0.mk c19
          clear c19
          obtain ⟨y173, hy173⟩ : ∃ y_ : List (S30), y_ = (y170 ++ [(⟨(⟨a1_0, a1_1⟩ : S28), a1_2, (⟨a1_3, a1_4⟩ : S28), (⟨a1_5, a1_6⟩ : S28), (⟨a1_7, a1_8⟩ : S28), a1_9, a1_10, a1_11⟩ : S30)]) := ⟨_, rfl⟩
          replace H : ((some (l0.drop (x5_1 : Int).toNat : List (S30))).bind fun y176 => (if y173.length + y176.length < 1353245080339 then (some (y173 ++ y176)) else (none))) = some r := by first | (rw [hy173]; with_reducible exact H) | (have H2_ := (Option.bind_some _ _).symm.trans H; rw [hy173]; with_reducible exact H2_) | (have H2_ := (Option.bind_some _ _).symm.trans H; with_reducible exact H2_) | with_reducible exact H | (rw [hy173]; exact H) | exact H
          have Ny173 := Aside0.mk hy173
          clear hy173
          have c20b0 := eq_true (of_decide_eq_true (by first | (with_reducible assumption) | assumption) : 0 ≤ x5_1)
          have c21b0 := eq_true (of_decide_eq_true (by first | (with_reducible assumption) | assumption) : x5_1 ≤ (l0.length : Int))
          obtain ⟨y176, hy176⟩ : ∃ y_ : List (S30), y_ = (l0.drop (x5_1 : Int).toNat) := ⟨_, rfl⟩
          replace H : (if y173.length + y176.length < 1353245080339 then (some (y173 ++ y176)) else (none)) = some r := by first | (rw [hy176]; with_reducible exact H) | (have H2_ := (Option.bind_some _ _).symm.trans H; rw [hy176]; with_reducible exact H2_) | (have H2_ := (Option.bind_some _ _).symm.trans H; with_reducible exact H2_) | with_reducible exact H | (rw [hy176]; exact H) | exact H
          have Ny176 := Aside0.mk hy176
          clear hy176
          by_cases c22 : y173.length + y176.length < 1353245080339
          ·rw [if_pos c22] at H
           have LMc22 := Aside0.mk c22
           clear c22
           obtain ⟨y180, hy180⟩ : ∃ y_ : List (S30), y_ = (y173 ++ y176) := ⟨_, rfl⟩
           replace H : (some y180) = some r := by first | (rw [hy180]; with_reducible exact H) | (have H2_ := (Option.bind_some _ _).symm.trans H; rw [hy180]; with_reducible exact H2_) | (have H2_ := (Option.bind_some _ _).symm.trans H; with_reducible exact H2_) | with_reducible exact H | (rw [hy180]; exact H) | exact H
           have Ny180 := Aside0.mk hy180
           clear hy180
           obtain rfl := Option.some.inj H
           try go_wp2
           have n0_ := Aside0.mk (Kd.R_drew HO_0.out)
           have n1_ := Aside0.mk (blk_drew BK159.out)
           have n2_ := Aside0.mk (Kept.drew HK.out)
           have n3_ := Aside0.mk (below_drew1 HB.out)
           clear HO_0
           clear BK159
           clear HK
           clear HB
           have HO_0 := n0_
           have BK159 := n1_
           have HK := n2_
           have HB := n3_
           clear n0_ n1_ n2_ n3_
           obtain ⟨Ao24, co24, eo24⟩ := Kd.R_slice HO_0.out
           (first | subst eo24 | (injection eo24 with f1_ f2_ f3_; have f4_ := f1_.symm; have f5_ := f3_.symm; clear f1_ f2_ f3_; subst f4_; subst f5_))
           have p160 : 0 ≤ (x5_1 : Int) := of_decide_eq_true (by first | (with_reducible assumption) | assumption)
           have q160 : x5_1 < (l0.length : Int) := of_decide_eq_true (by first | (with_reducible assumption) | assumption)
           obtain ⟨ad160, e160, hx160_0, hx160_1, hx160_2, hx160_3, hx160_4, hx160_5, hx160_6, hx160_7, hx160_8, hx160_9, hx160_10, hx160_11⟩ := at_T30 (Kd.R_reads' HO_0.out).2.2 x5_1 p160 q160
           cases e160
           replace p160 := eq_true p160
           replace q160 := eq_true q160
           refine start_ (n := 14) (S := fun w' => w'.cell? ⟨gb159, 0, none⟩ = some (.int .i64 a1_0) ∧ w'.cell? ⟨gb159, 1, none⟩ = some (.int .i64 a1_1) ∧ w'.cell? ⟨gb159, 2, none⟩ = some (.int .i64 a1_2) ∧ w'.cell? ⟨gb159, 3, none⟩ = some (.int .i64 a1_3) ∧ w'.cell? ⟨gb159, 4, none⟩ = some (.int .i64 a1_4) ∧ w'.cell? ⟨gb159, 5, none⟩ = some (.int .i64 a1_5) ∧ w'.cell? ⟨gb159, 6, none⟩ = some (.int .i64 a1_6) ∧ w'.cell? ⟨gb159, 7, none⟩ = some (.int .i64 a1_7) ∧ w'.cell? ⟨gb159, 8, none⟩ = some (.int .i64 a1_8) ∧ w'.cell? ⟨gb159, 9, none⟩ = some (.int .i64 a1_9) ∧ w'.cell? ⟨gb159, 10, none⟩ = some (.bool a1_10) ∧ w'.cell? ⟨gb159, 11, none⟩ = some (.string a1_11) ∧ w'.cell? (ad160.add ((x5_1).toNat * 12)) = some (.int .i64 ((rd_T30 l0 x5_1).f0.f0)) ∧ w'.cell? ⟨(ad160.add ((x5_1).toNat * 12)).block, (ad160.add ((x5_1).toNat * 12)).off + 1, none⟩ = some (.int .i64 ((rd_T30 l0 x5_1).f0.f1)) ∧ w'.cell? ⟨(ad160.add ((x5_1).toNat * 12)).block, (ad160.add ((x5_1).toNat * 12)).off + 2, none⟩ = some (.int .i64 ((rd_T30 l0 x5_1).f1)) ∧ w'.cell? ⟨(ad160.add ((x5_1).toNat * 12)).block, (ad160.add ((x5_1).toNat * 12)).off + 3, none⟩ = some (.int .i64 ((rd_T30 l0 x5_1).f2.f0)) ∧ w'.cell? ⟨(ad160.add ((x5_1).toNat * 12)).block, (ad160.add ((x5_1).toNat * 12)).off + 4, none⟩ = some (.int .i64 ((rd_T30 l0 x5_1).f2.f1)) ∧ w'.cell? ⟨(ad160.add ((x5_1).toNat * 12)).block, (ad160.add ((x5_1).toNat * 12)).off + 5, none⟩ = some (.int .i64 ((rd_T30 l0 x5_1).f3.f0)) ∧ w'.cell? ⟨(ad160.add ((x5_1).toNat * 12)).block, (ad160.add ((x5_1).toNat * 12)).off + 6, none⟩ = some (.int .i64 ((rd_T30 l0 x5_1).f3.f1)) ∧ w'.cell? ⟨(ad160.add ((x5_1).toNat * 12)).block, (ad160.add ((x5_1).toNat * 12)).off + 7, none⟩ = some (.int .i64 ((rd_T30 l0 x5_1).f4.f0)) ∧ w'.cell? ⟨(ad160.add ((x5_1).toNat * 12)).block, (ad160.add ((x5_1).toNat * 12)).off + 8, none⟩ = some (.int .i64 ((rd_T30 l0 x5_1).f4.f1)) ∧ w'.cell? ⟨(ad160.add ((x5_1).toNat * 12)).block, (ad160.add ((x5_1).toNat * 12)).off + 9, none⟩ = some (.int .i64 ((rd_T30 l0 x5_1).f5)) ∧ w'.cell? ⟨(ad160.add ((x5_1).toNat * 12)).block, (ad160.add ((x5_1).toNat * 12)).off + 10, none⟩ = some (.bool ((rd_T30 l0 x5_1).f6)) ∧ w'.cell? ⟨(ad160.add ((x5_1).toNat * 12)).block, (ad160.add ((x5_1).toNat * 12)).off + 11, none⟩ = some (.string ((rd_T30 l0 x5_1).f7))) (ds := []) qx13_0 (by kernel_rfl) rfl rfl ⟨(blk_cell BK159.out 0).trans rfl, (blk_cell BK159.out 1).trans rfl, (blk_cell BK159.out 2).trans rfl, (blk_cell BK159.out 3).trans rfl, (blk_cell BK159.out 4).trans rfl, (blk_cell BK159.out 5).trans rfl, (blk_cell BK159.out 6).trans rfl, (blk_cell BK159.out 7).trans rfl, (blk_cell BK159.out 8).trans rfl, (blk_cell BK159.out 9).trans rfl, (blk_cell BK159.out 10).trans rfl, (blk_cell BK159.out 11).trans rfl, hx160_0, hx160_1, hx160_2, hx160_3, hx160_4, hx160_5, hx160_6, hx160_7, hx160_8, hx160_9, hx160_10, hx160_11⟩ (fun hHeld => ?_); refine with_tabW spec_insertOp.tab2 spec_insertOp.bits2 (fun HT_ HW_ => ?_)
           generalize wr.drew = w23 at HO_0 BK159 HK HB hx160_0 hx160_1 hx160_10 hx160_11 hx160_2 hx160_3 hx160_4 hx160_5 hx160_6 hx160_7 hx160_8 hx160_9 hHeld ⊢
           refine pure_ (i := 0) (N := some 7) (v := ?_) (a' := ?_) qx13_1 rfl rfl (any_of HT_.out (by kernel_rfl)) (fun _ _ _ h => h) (Or.inl ⟨by rfl, ?_⟩) ?_ ?_
           rotate_left
           ·intro w'
            go_simp
            with_reducible rfl
           rotate_left
           ·simp only [putS]
            rfl
           refine pure_ (i := 1) (N := some 8) (v := ?_) (a' := ?_) qx13_2 rfl rfl (any_of HT_.out (by kernel_rfl)) (fun _ _ _ h => h) (Or.inl ⟨by rfl, ?_⟩) ?_ ?_
           rotate_left
           ·intro w'
            go_simp
            with_reducible rfl
           rotate_left
           ·simp only [putS]
            rfl
           refine pure_ (i := 2) (N := some 9) (v := ?_) (a' := ?_) qx13_3 rfl rfl (any_of HT_.out (by kernel_rfl)) (fun _ _ _ h => h) (Or.inl ⟨by rfl, ?_⟩) ?_ ?_
           rotate_left
           ·intro w'
            go_simp
            with_reducible rfl
           rotate_left
           ·simp only [putS]
            rfl
           refine pure_ (i := 3) (N := some 10) (v := ?_) (a' := ?_) qx13_4 rfl rfl (any_of HT_.out (by kernel_rfl)) (fun _ _ _ h => h) (Or.inl ⟨by rfl, ?_⟩) ?_ ?_
           rotate_left
           ·intro w'
            go_simp
            with_reducible rfl
           rotate_left
           ·simp only [putS]
            rfl
           refine pure_ (i := 4) (N := some 11) (v := ?_) (a' := ?_) qx13_5 rfl rfl (any_of HT_.out (by kernel_rfl)) (fun _ _ _ h => h) (Or.inl ⟨by rfl, ?_⟩) ?_ ?_
           rotate_left
           ·intro w'
            go_simp
            with_reducible rfl
           rotate_left
           ·simp only [putS]
            rfl
           refine pure_ (i := 5) (N := some 12) (v := ?_) (a' := ?_) qx13_6 rfl rfl (any_of HT_.out (by kernel_rfl)) (fun _ _ _ h => h) (Or.inl ⟨by rfl, ?_⟩) ?_ ?_
           rotate_left
           ·intro w'
            go_simp
            with_reducible rfl
           rotate_left
           ·simp only [putS]
            rfl
           refine pure_ (i := 6) (N := some 13) (v := ?_) (a' := ?_) qx13_7 rfl rfl (any_of HT_.out (by kernel_rfl)) (fun _ _ _ h => h) (Or.inl ⟨by rfl, ?_⟩) ?_ ?_
           rotate_left
           ·intro w'
            go_simp
            with_reducible rfl
           rotate_left
           ·simp only [putS]
            rfl
           refine pure_ (i := 7) (N := some 14) (v := ?_) (a' := ?_) qx13_8 rfl rfl (any_of HT_.out (by kernel_rfl)) (fun _ _ _ h => h) (Or.inl ⟨by rfl, ?_⟩) ?_ ?_
           rotate_left
           ·intro w'
            go_simp
            with_reducible rfl
           rotate_left
           ·simp only [putS]
            rfl
           refine pure_ (i := 8) (N := some 15) (v := ?_) (a' := ?_) qx13_9 rfl rfl (any_of HT_.out (by kernel_rfl)) (fun _ _ _ h => h) (Or.inl ⟨by rfl, ?_⟩) ?_ ?_
           rotate_left
           ·intro w'
            go_simp
            with_reducible rfl
           rotate_left
           ·simp only [putS]
            rfl
           refine pure_ (i := 10) (N := some 17) (v := ?_) (a' := ?_) qx13_14 rfl rfl (any_of HT_.out (by kernel_rfl)) (fun _ _ _ h => h) (Or.inl ⟨by rfl, ?_⟩) ?_ ?_
           rotate_left
           ·intro w'
            go_simp
            with_reducible rfl
           rotate_left
           ·simp only [putS]
            rfl
           refine take_ (i := 9) (N := some 16) (v := ?_) (a' := ?_) qx13_10 rfl rfl (take_ofW HT_.out HW_.out (by kernel_rfl)) (fun _ _ _ h => h) (Or.inl ⟨by rfl, ?_⟩) hHeld ?_ ?_
           rotate_left
           ·rintro w' ⟨s0, s1, s2, s3, s4, s5, s6, s7, s8, s9, s10, s11, s12, s13, s14, s15, s16, s17, s18, s19, s20, s21, s22, s23⟩
            go_simp
            with_reducible rfl
           rotate_left
           ·simp only [putS]
            rfl
           refine take_ (i := 11) (N := some 18) (v := ?_) (a' := ?_) qx13_11 rfl rfl (take_ofW HT_.out HW_.out (by kernel_rfl)) (fun _ _ _ h => h) (Or.inl ⟨by rfl, ?_⟩) hHeld ?_ ?_
           rotate_left
           ·rintro w' ⟨s0, s1, s2, s3, s4, s5, s6, s7, s8, s9, s10, s11, s12, s13, s14, s15, s16, s17, s18, s19, s20, s21, s22, s23⟩
            go_simp
            with_reducible rfl
           rotate_left
           ·simp only [putS]
            rfl
           refine one_ (i := 12) (N := some 19) qx13_12 rfl rfl (one_of HT_.out (by kernel_rfl)) (by decide) (fun K hK => ?_)
           refine goes_ Try.func67 (by kernel_rfl) rfl #[.agg #[.int .i64 ((rd_T30 l0 x5_1).f0.f0), .int .i64 ((rd_T30 l0 x5_1).f0.f1)], .agg #[.int .i64 a1_0, .int .i64 a1_1]] (by rfl) rfl rfl (by (try simp only [List.map_toArray, List.map_cons, List.map_nil]); first | done | rfl | (simp only [List.length_drop, List.length_take]; rfl)) ?_
           with_reducible refine (spec_stampLess.calls ((rd_T30 l0 x5_1).f0.f0) ((rd_T30 l0 x5_1).f0.f1) a1_0 a1_1 false _ A6.out).mono ?_
           rintro e w25 ⟨rfl, hb⟩
           have HS12_ := (hb.cell (World.block_lt_of_cell? _ _ (hHeld.2.2.2.2.2.2.2.2.2.2.2.2.1))).trans (hHeld.2.2.2.2.2.2.2.2.2.2.2.2.1)
           have HS13_ := (hb.cell (World.block_lt_of_cell? _ _ (hHeld.2.2.2.2.2.2.2.2.2.2.2.2.2.1))).trans (hHeld.2.2.2.2.2.2.2.2.2.2.2.2.2.1)
           have HS14_ := (hb.cell (World.block_lt_of_cell? _ _ (hHeld.2.2.2.2.2.2.2.2.2.2.2.2.2.2.1))).trans (hHeld.2.2.2.2.2.2.2.2.2.2.2.2.2.2.1)
           have HS15_ := (hb.cell (World.block_lt_of_cell? _ _ (hHeld.2.2.2.2.2.2.2.2.2.2.2.2.2.2.2.1))).trans (hHeld.2.2.2.2.2.2.2.2.2.2.2.2.2.2.2.1)
           have HS16_ := (hb.cell (World.block_lt_of_cell? _ _ (hHeld.2.2.2.2.2.2.2.2.2.2.2.2.2.2.2.2.1))).trans (hHeld.2.2.2.2.2.2.2.2.2.2.2.2.2.2.2.2.1)
           have HS17_ := (hb.cell (World.block_lt_of_cell? _ _ (hHeld.2.2.2.2.2.2.2.2.2.2.2.2.2.2.2.2.2.1))).trans (hHeld.2.2.2.2.2.2.2.2.2.2.2.2.2.2.2.2.2.1)
           have HS18_ := (hb.cell (World.block_lt_of_cell? _ _ (hHeld.2.2.2.2.2.2.2.2.2.2.2.2.2.2.2.2.2.2.1))).trans (hHeld.2.2.2.2.2.2.2.2.2.2.2.2.2.2.2.2.2.2.1)
           have HS19_ := (hb.cell (World.block_lt_of_cell? _ _ (hHeld.2.2.2.2.2.2.2.2.2.2.2.2.2.2.2.2.2.2.2.1))).trans (hHeld.2.2.2.2.2.2.2.2.2.2.2.2.2.2.2.2.2.2.2.1)
           have HS20_ := (hb.cell (World.block_lt_of_cell? _ _ (hHeld.2.2.2.2.2.2.2.2.2.2.2.2.2.2.2.2.2.2.2.2.1))).trans (hHeld.2.2.2.2.2.2.2.2.2.2.2.2.2.2.2.2.2.2.2.2.1)
           have HS21_ := (hb.cell (World.block_lt_of_cell? _ _ (hHeld.2.2.2.2.2.2.2.2.2.2.2.2.2.2.2.2.2.2.2.2.2.1))).trans (hHeld.2.2.2.2.2.2.2.2.2.2.2.2.2.2.2.2.2.2.2.2.2.1)
           have HS22_ := (hb.cell (World.block_lt_of_cell? _ _ (hHeld.2.2.2.2.2.2.2.2.2.2.2.2.2.2.2.2.2.2.2.2.2.2.1))).trans (hHeld.2.2.2.2.2.2.2.2.2.2.2.2.2.2.2.2.2.2.2.2.2.2.1)
           have HS23_ := (hb.cell (World.block_lt_of_cell? _ _ (hHeld.2.2.2.2.2.2.2.2.2.2.2.2.2.2.2.2.2.2.2.2.2.2.2))).trans (hHeld.2.2.2.2.2.2.2.2.2.2.2.2.2.2.2.2.2.2.2.2.2.2.2)
           refine ⟨_, rfl, ?_⟩
           have n0_ := Aside0.mk (Kd.R_below (by (with_reducible repeat (first | apply Kd.R_alloc | apply Kd.R_drewN | apply Kd.R_drew)); exact HO_0.out) hb)
           have n1_ := Aside0.mk (blk_below (g := gb159) (o := .cells #[.int .i64 a1_0, .int .i64 a1_1, .int .i64 a1_2, .int .i64 a1_3, .int .i64 a1_4, .int .i64 a1_5, .int .i64 a1_6, .int .i64 a1_7, .int .i64 a1_8, .int .i64 a1_9, .bool a1_10, .string a1_11] 30 (0, 0)) (by (with_reducible repeat (first | refine blk_drewN ?_ _ | refine blk_drew ?_ | refine blk_alloc ?_ _)); exact BK159.out) hb)
           have n2_ := Aside0.mk (Kept.below (S := (fun k_ => P0_ k_)) (by repeat (first | (with_reducible first | exact HK.out | apply Kept.alloc | apply Kept.drewN | apply Kept.drew | refine Kept.setCell ?_ (.inr GW159.out) _) | exact HK.out)) hb)
           have n3_ := Aside0.mk (below_step (by repeat (first | (with_reducible first | exact HB.out | apply below_alloc | apply pw_below_drewN | apply below_drew1 | refine below_set ?_ GE159.out) | exact HB.out)) hb)
           clear HO_0
           clear BK159
           clear HK
           clear HB
           have HO_0 := n0_
           have BK159 := n1_
           have HK := n2_
           have HB := n3_
           clear n0_ n1_ n2_ n3_
           (try clear hb)
           (try clear hb2)
           (try clear hk)
           (try clear hi)
           refine hK.out _ _ ⟨(blk_cell BK159.out 0).trans rfl, (blk_cell BK159.out 1).trans rfl, (blk_cell BK159.out 2).trans rfl, (blk_cell BK159.out 3).trans rfl, (blk_cell BK159.out 4).trans rfl, (blk_cell BK159.out 5).trans rfl, (blk_cell BK159.out 6).trans rfl, (blk_cell BK159.out 7).trans rfl, (blk_cell BK159.out 8).trans rfl, (blk_cell BK159.out 9).trans rfl, (blk_cell BK159.out 10).trans rfl, (blk_cell BK159.out 11).trans rfl, HS12_, HS13_, HS14_, HS15_, HS16_, HS17_, HS18_, HS19_, HS20_, HS21_, HS22_, HS23_⟩ (fun hHeld => ?_)
           clear hK K
           refine norm_ (a' := ?_) ?_ ?_
           rotate_left
           ·show Act.put _ (some 19) _ = _
            simp only [putS]
            rfl
           refine pure_ (i := 13) (N := some 20) (v := ?_) (a' := ?_) qx13_13 rfl rfl (any_of HT_.out (by kernel_rfl)) (fun _ _ _ h => h) (Or.inl ⟨by rfl, ?_⟩) ?_ ?_
           rotate_left
           ·intro w'
            go_simp
            with_reducible rfl
           rotate_left
           ·simp only [putS]
            rfl
           refine done_ (done_of HT_.out (by kernel_rfl)) ?_
           try go_wp2
           have n0_ := Aside0.mk (Kd.R_drew HO_0.out)
           have n1_ := Aside0.mk (blk_drew BK159.out)
           have n2_ := Aside0.mk (Kept.drew HK.out)
           have n3_ := Aside0.mk (below_drew1 HB.out)
           clear HO_0
           clear BK159
           clear HK
           clear HB
           have HO_0 := n0_
           have BK159 := n1_
           have HK := n2_
           have HB := n3_
           clear n0_ n1_ n2_ n3_
           have p162 : 0 ≤ (x5_1 : Int) := of_decide_eq_true (by first | (with_reducible assumption) | assumption)
           have q162 : x5_1 < (l0.length : Int) := of_decide_eq_true (by first | (with_reducible assumption) | assumption)
           obtain ⟨ad162, e162, hx162_0, hx162_1, hx162_2, hx162_3, hx162_4, hx162_5, hx162_6, hx162_7, hx162_8, hx162_9, hx162_10, hx162_11⟩ := at_T30 (Kd.R_reads' HO_0.out).2.2 x5_1 p162 q162
           obtain rfl : ad160 = ad162 := (by injection e162)
           replace p162 := eq_true p162
           replace q162 := eq_true q162
           refine start_ (n := 14) (S := fun w' => w'.cell? ⟨gb159, 0, none⟩ = some (.int .i64 a1_0) ∧ w'.cell? ⟨gb159, 1, none⟩ = some (.int .i64 a1_1) ∧ w'.cell? ⟨gb159, 2, none⟩ = some (.int .i64 a1_2) ∧ w'.cell? ⟨gb159, 3, none⟩ = some (.int .i64 a1_3) ∧ w'.cell? ⟨gb159, 4, none⟩ = some (.int .i64 a1_4) ∧ w'.cell? ⟨gb159, 5, none⟩ = some (.int .i64 a1_5) ∧ w'.cell? ⟨gb159, 6, none⟩ = some (.int .i64 a1_6) ∧ w'.cell? ⟨gb159, 7, none⟩ = some (.int .i64 a1_7) ∧ w'.cell? ⟨gb159, 8, none⟩ = some (.int .i64 a1_8) ∧ w'.cell? ⟨gb159, 9, none⟩ = some (.int .i64 a1_9) ∧ w'.cell? ⟨gb159, 10, none⟩ = some (.bool a1_10) ∧ w'.cell? ⟨gb159, 11, none⟩ = some (.string a1_11) ∧ w'.cell? (ad160.add ((x5_1).toNat * 12)) = some (.int .i64 ((rd_T30 l0 x5_1).f0.f0)) ∧ w'.cell? ⟨(ad160.add ((x5_1).toNat * 12)).block, (ad160.add ((x5_1).toNat * 12)).off + 1, none⟩ = some (.int .i64 ((rd_T30 l0 x5_1).f0.f1)) ∧ w'.cell? ⟨(ad160.add ((x5_1).toNat * 12)).block, (ad160.add ((x5_1).toNat * 12)).off + 2, none⟩ = some (.int .i64 ((rd_T30 l0 x5_1).f1)) ∧ w'.cell? ⟨(ad160.add ((x5_1).toNat * 12)).block, (ad160.add ((x5_1).toNat * 12)).off + 3, none⟩ = some (.int .i64 ((rd_T30 l0 x5_1).f2.f0)) ∧ w'.cell? ⟨(ad160.add ((x5_1).toNat * 12)).block, (ad160.add ((x5_1).toNat * 12)).off + 4, none⟩ = some (.int .i64 ((rd_T30 l0 x5_1).f2.f1)) ∧ w'.cell? ⟨(ad160.add ((x5_1).toNat * 12)).block, (ad160.add ((x5_1).toNat * 12)).off + 5, none⟩ = some (.int .i64 ((rd_T30 l0 x5_1).f3.f0)) ∧ w'.cell? ⟨(ad160.add ((x5_1).toNat * 12)).block, (ad160.add ((x5_1).toNat * 12)).off + 6, none⟩ = some (.int .i64 ((rd_T30 l0 x5_1).f3.f1)) ∧ w'.cell? ⟨(ad160.add ((x5_1).toNat * 12)).block, (ad160.add ((x5_1).toNat * 12)).off + 7, none⟩ = some (.int .i64 ((rd_T30 l0 x5_1).f4.f0)) ∧ w'.cell? ⟨(ad160.add ((x5_1).toNat * 12)).block, (ad160.add ((x5_1).toNat * 12)).off + 8, none⟩ = some (.int .i64 ((rd_T30 l0 x5_1).f4.f1)) ∧ w'.cell? ⟨(ad160.add ((x5_1).toNat * 12)).block, (ad160.add ((x5_1).toNat * 12)).off + 9, none⟩ = some (.int .i64 ((rd_T30 l0 x5_1).f5)) ∧ w'.cell? ⟨(ad160.add ((x5_1).toNat * 12)).block, (ad160.add ((x5_1).toNat * 12)).off + 10, none⟩ = some (.bool ((rd_T30 l0 x5_1).f6)) ∧ w'.cell? ⟨(ad160.add ((x5_1).toNat * 12)).block, (ad160.add ((x5_1).toNat * 12)).off + 11, none⟩ = some (.string ((rd_T30 l0 x5_1).f7))) (ds := []) qx13_0 (by kernel_rfl) rfl rfl ⟨(blk_cell BK159.out 0).trans rfl, (blk_cell BK159.out 1).trans rfl, (blk_cell BK159.out 2).trans rfl, (blk_cell BK159.out 3).trans rfl, (blk_cell BK159.out 4).trans rfl, (blk_cell BK159.out 5).trans rfl, (blk_cell BK159.out 6).trans rfl, (blk_cell BK159.out 7).trans rfl, (blk_cell BK159.out 8).trans rfl, (blk_cell BK159.out 9).trans rfl, (blk_cell BK159.out 10).trans rfl, (blk_cell BK159.out 11).trans rfl, hx162_0, hx162_1, hx162_2, hx162_3, hx162_4, hx162_5, hx162_6, hx162_7, hx162_8, hx162_9, hx162_10, hx162_11⟩ (fun hHeld => ?_); refine with_tabW spec_insertOp.tab4 spec_insertOp.bits4 (fun HT_ HW_ => ?_)
           generalize w25.drew = w26 at HO_0 BK159 HK HB hx162_0 hx162_1 hx162_10 hx162_11 hx162_2 hx162_3 hx162_4 hx162_5 hx162_6 hx162_7 hx162_8 hx162_9 hHeld ⊢
           refine pure_ (i := 0) (N := some 23) (v := ?_) (a' := ?_) qx13_1 rfl rfl (any_of HT_.out (by kernel_rfl)) (fun _ _ _ h => h) (Or.inl ⟨by rfl, ?_⟩) ?_ ?_
           rotate_left
           ·intro w'
            go_simp
            with_reducible rfl
           rotate_left
           ·simp only [putS]
            rfl
           refine pure_ (i := 1) (N := some 24) (v := ?_) (a' := ?_) qx13_2 rfl rfl (any_of HT_.out (by kernel_rfl)) (fun _ _ _ h => h) (Or.inl ⟨by rfl, ?_⟩) ?_ ?_
           rotate_left
           ·intro w'
            go_simp
            with_reducible rfl
           rotate_left
           ·simp only [putS]
            rfl
           refine pure_ (i := 2) (N := some 25) (v := ?_) (a' := ?_) qx13_3 rfl rfl (any_of HT_.out (by kernel_rfl)) (fun _ _ _ h => h) (Or.inl ⟨by rfl, ?_⟩) ?_ ?_
           rotate_left
           ·intro w'
            go_simp
            with_reducible rfl
           rotate_left
           ·simp only [putS]
            rfl
           refine pure_ (i := 3) (N := some 26) (v := ?_) (a' := ?_) qx13_4 rfl rfl (any_of HT_.out (by kernel_rfl)) (fun _ _ _ h => h) (Or.inl ⟨by rfl, ?_⟩) ?_ ?_
           rotate_left
           ·intro w'
            go_simp
            with_reducible rfl
           rotate_left
           ·simp only [putS]
            rfl
           refine pure_ (i := 4) (N := some 27) (v := ?_) (a' := ?_) qx13_5 rfl rfl (any_of HT_.out (by kernel_rfl)) (fun _ _ _ h => h) (Or.inl ⟨by rfl, ?_⟩) ?_ ?_
           rotate_left
           ·intro w'
            go_simp
            with_reducible rfl
           rotate_left
           ·simp only [putS]
            rfl
           refine pure_ (i := 5) (N := some 28) (v := ?_) (a' := ?_) qx13_6 rfl rfl (any_of HT_.out (by kernel_rfl)) (fun _ _ _ h => h) (Or.inl ⟨by rfl, ?_⟩) ?_ ?_
           rotate_left
           ·intro w'
            go_simp
            with_reducible rfl
           rotate_left
           ·simp only [putS]
            rfl
           refine pure_ (i := 6) (N := some 29) (v := ?_) (a' := ?_) qx13_7 rfl rfl (any_of HT_.out (by kernel_rfl)) (fun _ _ _ h => h) (Or.inl ⟨by rfl, ?_⟩) ?_ ?_
           rotate_left
           ·intro w'
            go_simp
            with_reducible rfl
           rotate_left
           ·simp only [putS]
            rfl
           refine pure_ (i := 7) (N := some 30) (v := ?_) (a' := ?_) qx13_8 rfl rfl (any_of HT_.out (by kernel_rfl)) (fun _ _ _ h => h) (Or.inl ⟨by rfl, ?_⟩) ?_ ?_
           rotate_left
           ·intro w'
            go_simp
            with_reducible rfl
           rotate_left
           ·simp only [putS]
            rfl
           refine pure_ (i := 8) (N := some 31) (v := ?_) (a' := ?_) qx13_9 rfl rfl (any_of HT_.out (by kernel_rfl)) (fun _ _ _ h => h) (Or.inl ⟨by rfl, ?_⟩) ?_ ?_
           rotate_left
           ·intro w'
            go_simp
            with_reducible rfl
           rotate_left
           ·simp only [putS]
            rfl
           refine pure_ (i := 10) (N := some 33) (v := ?_) (a' := ?_) qx13_14 rfl rfl (any_of HT_.out (by kernel_rfl)) (fun _ _ _ h => h) (Or.inl ⟨by rfl, ?_⟩) ?_ ?_
           rotate_left
           ·intro w'
            go_simp
            with_reducible rfl
           rotate_left
           ·simp only [putS]
            rfl
           refine take_ (i := 9) (N := some 32) (v := ?_) (a' := ?_) qx13_10 rfl rfl (take_ofW HT_.out HW_.out (by kernel_rfl)) (fun _ _ _ h => h) (Or.inl ⟨by rfl, ?_⟩) hHeld ?_ ?_
           rotate_left
           ·rintro w' ⟨s0, s1, s2, s3, s4, s5, s6, s7, s8, s9, s10, s11, s12, s13, s14, s15, s16, s17, s18, s19, s20, s21, s22, s23⟩
            go_simp
            with_reducible rfl
           rotate_left
           ·simp only [putS]
            rfl
           refine take_ (i := 11) (N := some 34) (v := ?_) (a' := ?_) qx13_11 rfl rfl (take_ofW HT_.out HW_.out (by kernel_rfl)) (fun _ _ _ h => h) (Or.inl ⟨by rfl, ?_⟩) hHeld ?_ ?_
           rotate_left
           ·rintro w' ⟨s0, s1, s2, s3, s4, s5, s6, s7, s8, s9, s10, s11, s12, s13, s14, s15, s16, s17, s18, s19, s20, s21, s22, s23⟩
            go_simp
            with_reducible rfl
           rotate_left
           ·simp only [putS]
            rfl
           refine pure_ (i := 12) (N := some 35) (v := ?_) (a' := ?_) qx13_12 rfl rfl (any_of HT_.out (by kernel_rfl)) (fun _ _ _ h => h) (Or.inl ⟨by rfl, ?_⟩) ?_ ?_
           rotate_left
           ·intro w'
            go_simp
            with_reducible rfl
           rotate_left
           ·simp only [putS]
            rfl
           refine pure_ (i := 13) (N := some 36) (v := ?_) (a' := ?_) qx13_13 rfl rfl (any_of HT_.out (by kernel_rfl)) (fun _ _ _ h => h) (Or.inl ⟨by rfl, ?_⟩) ?_ ?_
           rotate_left
           ·intro w'
            go_simp
            with_reducible rfl
           rotate_left
           ·simp only [putS]
            rfl
           refine done_ (done_of HT_.out (by kernel_rfl)) ?_
           try go_wp2_with (first | ((with_reducible refine gate_dst (N := 38) rfl ?_); refine Kd.R_lit k30 _ 30 ?hg (N := 38) ?hd (xs := ([] : List (S30))) (inner := []) (ok := fun _ => True) (okp := fun _ => True) ?hr ?hp (fun _ hk => hk) trivial (Below.refl _ _) (Nat.le_refl _) (by simp) ?_; (case hd => rfl); (case hg => rfl); (case hr => first | (go_simp; done) | (go_simp; rfl)); (case hp => exact (Reps.none _ _)); intro v164 w27 ho28 hb hg_ hnew_; clear hg_ hnew_; (first | rw [← Ny163.out] at ho28 | (simp only [Int.reduceToNat] at ho28; rw [← Ny163.out] at ho28)); have n0_ := Aside0.mk (Kd.R_elder' (by (with_reducible repeat (first | apply Kd.R_alloc | apply Kd.R_drewN | apply Kd.R_drew)); exact HO_0.out) (Kd.R_base ho28) hb); have n1_ := Aside0.mk (Kd.R_lower (Kd.R_newB (Kd.R_new' (Kd.R_newM (M := fun k_ => (P0_ k_ ∨ w.heap.size ≤ k_)) ho28 (by first | exact HK.out.1 | exact (show Kept w _ (fun k_ => P0_ k_) from by repeat (first | (with_reducible first | exact HK.out | apply Kept.alloc | apply Kept.drewN | apply Kept.drew | refine Kept.setCell ?_ (.inr GW159.out) _) | exact HK.out)).1) (fun k_ h_ => .inr h_)) (Kd.R_lt (by (with_reducible repeat (first | apply Kd.R_alloc | apply Kd.R_drewN | apply Kd.R_drew)); exact HO_0.out))) (g := gb159) (o := .cells #[.int .i64 a1_0, .int .i64 a1_1, .int .i64 a1_2, .int .i64 a1_3, .int .i64 a1_4, .int .i64 a1_5, .int .i64 a1_6, .int .i64 a1_7, .int .i64 a1_8, .int .i64 a1_9, .bool a1_10, .string a1_11] 30 (0, 0)) (by (with_reducible repeat (first | refine blk_drewN ?_ _ | refine blk_drew ?_ | refine blk_alloc ?_ _)); exact BK159.out)) (below_size (by repeat (first | (with_reducible first | exact HB.out | apply below_alloc | apply pw_below_drewN | apply below_drew1 | refine below_set ?_ GE159.out) | exact HB.out)))); have n2_ := Aside0.mk (blk_below (g := gb159) (o := .cells #[.int .i64 a1_0, .int .i64 a1_1, .int .i64 a1_2, .int .i64 a1_3, .int .i64 a1_4, .int .i64 a1_5, .int .i64 a1_6, .int .i64 a1_7, .int .i64 a1_8, .int .i64 a1_9, .bool a1_10, .string a1_11] 30 (0, 0)) (by (with_reducible repeat (first | refine blk_drewN ?_ _ | refine blk_drew ?_ | refine blk_alloc ?_ _)); exact BK159.out) hb); have n3_ := Aside0.mk (Kept.below (S := (fun k_ => P0_ k_)) (by repeat (first | (with_reducible first | exact HK.out | apply Kept.alloc | apply Kept.drewN | apply Kept.drew | refine Kept.setCell ?_ (.inr GW159.out) _) | exact HK.out)) hb); have n4_ := Aside0.mk (below_step (by repeat (first | (with_reducible first | exact HB.out | apply below_alloc | apply pw_below_drewN | apply below_drew1 | refine below_set ?_ GE159.out) | exact HB.out)) hb); clear HO_0; clear BK159; clear HK; clear HB; have HO_0 := n0_; have HO165 := n1_; have BK159 := n2_; have HK := n3_; have HB := n4_; clear n0_ n1_ n2_ n3_ n4_; clear hb ho28; have q29 : (x5_1 : Int) ≤ ((l0.length : Int) : Int) := of_decide_eq_true (by first | (with_reducible assumption) | assumption); obtain ⟨i029, hi029, _, hsz29, _⟩ := info_parts info30; have hroom29 : l0.length ≤ co24 := (Kd.R_reads' HO_0.out).2.1; have hC29 : Kd.C k30 _ (some ad160) l0.length l0 := (Kd.R_reads' HO_0.out).2.2; have hcut29 := cut_to (P := Try.prog) 36 30 .i64 Try.underlying36 hi029 (some ad160) l0.length co24 x5_1 (of_decide_eq_true (by first | (with_reducible assumption) | assumption)) q29 hroom29; have hr29 := Kd.C_take (m := (x5_1 : Int).toNat) hC29 (by omega); have hy29 : y166.length = (x5_1 : Int).toNat := (by rw [Ny166.out, List.length_take]; omega); rw [← Ny166.out] at hr29; rw [← hy29] at hcut29; have HR169 := Aside0.mk hr29; have HC169 := Aside0.mk (show y166.length ≤ co24 from by omega); clear hr29 hC29 hroom29 hi029 hsz29; have KY29 := Aside0.mk hy29; clear hy29; have KL29 := Aside0.mk (show (x5_1 : Int).toNat ≤ l0.length from by omega); replace q29 := eq_true q29) | ((with_reducible refine gate_builtin (b := .append) (xs := #[.tmp 38, .tmp 41]) rfl ?_); at_builtin; refine Kd.R_append_rows k30 (w0 := w0) w0.heap.size rfl (.tmp 38) (.tmp 41) 36 30 (.agg #[(.int .i64 0), (.int .i64 0), (.int .i64 0), (.int .i64 0), (.int .i64 0), (.int .i64 0), (.int .i64 0), (.int .i64 0), (.int .i64 0), (.int .i64 0), (.bool false), (.string ⟨#[]⟩)]) 104 rfl Try.underlying36 info30 rfl (by decide) (by omega) v164 y163 y166 _ _ _ (fun k_ => (P0_ k_ ∨ w.heap.size ≤ k_) ∧ some k_ ≠ (.slice (some ad160) l0.length co24 : Value).ownBlock ∧ k_ ≠ gb159) (fun _ => False) rfl rfl ?aO ?aR (fun _ _ h => h) (fun _ h => h.elim) ?aF ?aB ?aS ?aL ?_; (case aR => repeat (first | exact (by repeat (first | (with_reducible exact HR169.out) | (with_reducible refine Kd.C_alloc ?_ _) | (with_reducible refine Kd.C_drewN ?_ _) | (with_reducible refine Kd.C_drew ?_) | exact HR169.out)) | (with_reducible refine Kd.C_alloc ?_ _) | (with_reducible refine Kd.C_drewN ?_ _) | (with_reducible refine Kd.C_drew ?_))); (case aB => exact (by repeat (first | (with_reducible first | exact HB.out | apply below_alloc | apply pw_below_drewN | apply below_drew1 | refine below_set ?_ GE159.out) | exact HB.out))); (case aF => exact (fun k_ hk => ⟨(.inr (Nat.le_trans (by first | exact HK.out.1 | exact (show Kept w _ (fun k_ => P0_ k_) from by repeat (first | (with_reducible first | exact HK.out | apply Kept.alloc | apply Kept.drewN | apply Kept.drew | refine Kept.setCell ?_ (.inr GW159.out) _) | exact HK.out)).1) hk)), Kd.fresh' (Kd.R_lt (by (with_reducible repeat (first | apply Kd.R_alloc | apply Kd.R_drewN | apply Kd.R_drew)); exact HO_0.out)) k_ hk, Kd.freshB (g := gb159) (o := .cells #[.int .i64 a1_0, .int .i64 a1_1, .int .i64 a1_2, .int .i64 a1_3, .int .i64 a1_4, .int .i64 a1_5, .int .i64 a1_6, .int .i64 a1_7, .int .i64 a1_8, .int .i64 a1_9, .bool a1_10, .string a1_11] 30 (0, 0)) (by (with_reducible repeat (first | refine blk_drewN ?_ _ | refine blk_drew ?_ | refine blk_alloc ?_ _)); exact BK159.out) k_ hk⟩)); (case aO => exact (by (with_reducible repeat (first | apply Kd.R_alloc | apply Kd.R_drewN | apply Kd.R_drew)); exact Kd.R_mono HO165.out (fun _ hk => ⟨hk.1.1.1, ⟨hk.1.2, hk.2⟩⟩))); (case aS => exact (below_size (by repeat (first | (with_reducible first | exact HB.out | apply below_alloc | apply pw_below_drewN | apply below_drew1 | refine below_set ?_ GE159.out) | exact HB.out)))); (case aL => have := LMc18.out; omega); intro v171 w30 ho hb hg hat; rw [← Ny170.out] at ho; have n0_ := Aside0.mk (Kd.R_after (ok := (fun k_ => (P0_ k_ ∨ w.heap.size ≤ k_) ∧ k_ ≠ gb159)) (by (with_reducible repeat (first | apply Kd.R_alloc | apply Kd.R_drewN | apply Kd.R_drew)); exact HO_0.out) hg hat); have n1_ := Aside0.mk (blk_grown (g := gb159) (o := .cells #[.int .i64 a1_0, .int .i64 a1_1, .int .i64 a1_2, .int .i64 a1_3, .int .i64 a1_4, .int .i64 a1_5, .int .i64 a1_6, .int .i64 a1_7, .int .i64 a1_8, .int .i64 a1_9, .bool a1_10, .string a1_11] 30 (0, 0)) (by (with_reducible repeat (first | refine blk_drewN ?_ _ | refine blk_drew ?_ | refine blk_alloc ?_ _)); exact BK159.out) hg (Kd.R_away HO165.out (fun _ hk => hk.2))); have n2_ := Aside0.mk (hb); have n3_ := Aside0.mk (Kept.of_grown (S := (fun k_ => P0_ k_)) hg (by repeat (first | (with_reducible first | exact HK.out | apply Kept.alloc | apply Kept.drewN | apply Kept.drew | refine Kept.setCell ?_ (.inr GW159.out) _) | exact HK.out)) (fun k_ e_ => (HO165.out.1 k_ e_).1.1.1)); have n4_ := Aside0.mk ((show Kd.C k30 w30 (some ad160) y166.length y166 from by rw [Ny166.out]; exact Kd.C_take (m := (x5_1 : Int).toNat) ((Kd.R_reads' (Kd.R_after (ok := (fun k_ => (P0_ k_ ∨ w.heap.size ≤ k_) ∧ k_ ≠ gb159)) (by (with_reducible repeat (first | apply Kd.R_alloc | apply Kd.R_drewN | apply Kd.R_drew)); exact HO_0.out) hg hat)).2.2) KL29.out)); have n5_ := Aside0.mk (ho); clear HO_0; clear BK159; clear HB; clear HK; clear HR169; clear HO165; have HO_0 := n0_; have BK159 := n1_; have HB := n2_; have HK := n3_; have HR169 := n4_; have HO172 := n5_; clear n0_ n1_ n2_ n3_ n4_ n5_; clear ho hb hg hat; have hcz31_0 : w30.cell? ⟨gb159, 0, none⟩ = some (.int .i64 a1_0) := (blk_cell BK159.out 0).trans rfl; have hcz31_1 : w30.cell? ⟨gb159, 1, none⟩ = some (.int .i64 a1_1) := (blk_cell BK159.out 1).trans rfl; have hcz31_2 : w30.cell? ⟨gb159, 2, none⟩ = some (.int .i64 a1_2) := (blk_cell BK159.out 2).trans rfl; have hcz31_3 : w30.cell? ⟨gb159, 3, none⟩ = some (.int .i64 a1_3) := (blk_cell BK159.out 3).trans rfl; have hcz31_4 : w30.cell? ⟨gb159, 4, none⟩ = some (.int .i64 a1_4) := (blk_cell BK159.out 4).trans rfl; have hcz31_5 : w30.cell? ⟨gb159, 5, none⟩ = some (.int .i64 a1_5) := (blk_cell BK159.out 5).trans rfl; have hcz31_6 : w30.cell? ⟨gb159, 6, none⟩ = some (.int .i64 a1_6) := (blk_cell BK159.out 6).trans rfl; have hcz31_7 : w30.cell? ⟨gb159, 7, none⟩ = some (.int .i64 a1_7) := (blk_cell BK159.out 7).trans rfl; have hcz31_8 : w30.cell? ⟨gb159, 8, none⟩ = some (.int .i64 a1_8) := (blk_cell BK159.out 8).trans rfl; have hcz31_9 : w30.cell? ⟨gb159, 9, none⟩ = some (.int .i64 a1_9) := (blk_cell BK159.out 9).trans rfl; have hcz31_10 : w30.cell? ⟨gb159, 10, none⟩ = some (.bool a1_10) := (blk_cell BK159.out 10).trans rfl; have hcz31_11 : w30.cell? ⟨gb159, 11, none⟩ = some (.string a1_11) := (blk_cell BK159.out 11).trans rfl; have hfz31_0 := blk_frozen BK159.out 0; have hfz31_1 := blk_frozen BK159.out 1; have hfz31_2 := blk_frozen BK159.out 2; have hfz31_3 := blk_frozen BK159.out 3; have hfz31_4 := blk_frozen BK159.out 4; have hfz31_5 := blk_frozen BK159.out 5; have hfz31_6 := blk_frozen BK159.out 6; have hfz31_7 := blk_frozen BK159.out 7; have hfz31_8 := blk_frozen BK159.out 8; have hfz31_9 := blk_frozen BK159.out 9; have hfz31_10 := blk_frozen BK159.out 10; have hfz31_11 := blk_frozen BK159.out 11) | ((with_reducible refine gate_builtin (b := .append) (xs := #[.tmp 43, .tmp 45]) rfl ?_); at_builtin; refine Kd.R_append k30 (w0 := w0) w0.heap.size rfl (.tmp 43) (.tmp 45) 36 30 (.agg #[(.int .i64 0), (.int .i64 0), (.int .i64 0), (.int .i64 0), (.int .i64 0), (.int .i64 0), (.int .i64 0), (.int .i64 0), (.int .i64 0), (.int .i64 0), (.bool false), (.string ⟨#[]⟩)]) 104 rfl Try.underlying36 info30 rfl (by decide) (by omega) v171 y170 (⟨(⟨a1_0, a1_1⟩ : S28), a1_2, (⟨a1_3, a1_4⟩ : S28), (⟨a1_5, a1_6⟩ : S28), (⟨a1_7, a1_8⟩ : S28), a1_9, a1_10, a1_11⟩ : S30) [.int .i64 a1_0, .int .i64 a1_1, .int .i64 a1_2, .int .i64 a1_3, .int .i64 a1_4, .int .i64 a1_5, .int .i64 a1_6, .int .i64 a1_7, .int .i64 a1_8, .int .i64 a1_9, .bool a1_10, .string a1_11] (fun k_ => (P0_ k_ ∨ w.heap.size ≤ k_) ∧ some k_ ≠ (.slice (some ad160) l0.length co24 : Value).ownBlock ∧ k_ ≠ gb159) (fun _ => False) rfl rfl ?aP (fun _ hk => hk.elim) ?aF ?aO ?aB ?aS ?aL ?_; (case aP => exact k30_mkM _ _ _ (⟨(⟨a1_0, a1_1⟩ : S28), a1_2, (⟨a1_3, a1_4⟩ : S28), (⟨a1_5, a1_6⟩ : S28), (⟨a1_7, a1_8⟩ : S28), a1_9, a1_10, a1_11⟩ : S30)); (case aB => exact (by repeat (first | (with_reducible first | exact HB.out | apply below_alloc | apply pw_below_drewN | apply below_drew1 | refine below_set ?_ GE159.out) | exact HB.out))); (case aF => exact (fun k_ hk => ⟨(.inr (Nat.le_trans (by first | exact HK.out.1 | exact (show Kept w _ (fun k_ => P0_ k_) from by repeat (first | (with_reducible first | exact HK.out | apply Kept.alloc | apply Kept.drewN | apply Kept.drew | refine Kept.setCell ?_ (.inr GW159.out) _) | exact HK.out)).1) hk)), Kd.fresh' (Kd.R_lt (by (with_reducible repeat (first | apply Kd.R_alloc | apply Kd.R_drewN | apply Kd.R_drew)); exact HO_0.out)) k_ hk, Kd.freshB (g := gb159) (o := .cells #[.int .i64 a1_0, .int .i64 a1_1, .int .i64 a1_2, .int .i64 a1_3, .int .i64 a1_4, .int .i64 a1_5, .int .i64 a1_6, .int .i64 a1_7, .int .i64 a1_8, .int .i64 a1_9, .bool a1_10, .string a1_11] 30 (0, 0)) (by (with_reducible repeat (first | refine blk_drewN ?_ _ | refine blk_drew ?_ | refine blk_alloc ?_ _)); exact BK159.out) k_ hk⟩)); (case aO => exact (by (with_reducible repeat (first | apply Kd.R_alloc | apply Kd.R_drewN | apply Kd.R_drew)); exact HO172.out)); (case aS => exact (below_size (by repeat (first | (with_reducible first | exact HB.out | apply below_alloc | apply pw_below_drewN | apply below_drew1 | refine below_set ?_ GE159.out) | exact HB.out)))); (case aL => have := LMc19.out; omega); intro v174 w32 ho hb hg hat; rw [← Ny173.out] at ho; have n0_ := Aside0.mk (Kd.R_after (ok := (fun k_ => (P0_ k_ ∨ w.heap.size ≤ k_) ∧ k_ ≠ gb159)) (by (with_reducible repeat (first | apply Kd.R_alloc | apply Kd.R_drewN | apply Kd.R_drew)); exact HO_0.out) hg hat); have n1_ := Aside0.mk (blk_grown (g := gb159) (o := .cells #[.int .i64 a1_0, .int .i64 a1_1, .int .i64 a1_2, .int .i64 a1_3, .int .i64 a1_4, .int .i64 a1_5, .int .i64 a1_6, .int .i64 a1_7, .int .i64 a1_8, .int .i64 a1_9, .bool a1_10, .string a1_11] 30 (0, 0)) (by (with_reducible repeat (first | refine blk_drewN ?_ _ | refine blk_drew ?_ | refine blk_alloc ?_ _)); exact BK159.out) hg (Kd.R_away HO172.out (fun _ hk => hk.2.2))); have n2_ := Aside0.mk (hb); have n3_ := Aside0.mk (Kept.of_grown (S := (fun k_ => P0_ k_)) hg (by repeat (first | (with_reducible first | exact HK.out | apply Kept.alloc | apply Kept.drewN | apply Kept.drew | refine Kept.setCell ?_ (.inr GW159.out) _) | exact HK.out)) (fun k_ e_ => (HO172.out.1 k_ e_).1)); have n4_ := Aside0.mk ((show Kd.C k30 w32 (some ad160) y166.length y166 from by rw [Ny166.out]; exact Kd.C_take (m := (x5_1 : Int).toNat) ((Kd.R_reads' (Kd.R_after (ok := (fun k_ => (P0_ k_ ∨ w.heap.size ≤ k_) ∧ k_ ≠ gb159)) (by (with_reducible repeat (first | apply Kd.R_alloc | apply Kd.R_drewN | apply Kd.R_drew)); exact HO_0.out) hg hat)).2.2) KL29.out)); have n5_ := Aside0.mk (ho); clear HO_0; clear BK159; clear HB; clear HK; clear HR169; clear HO172; have HO_0 := n0_; have BK159 := n1_; have HB := n2_; have HK := n3_; have HR169 := n4_; have HO175 := n5_; clear n0_ n1_ n2_ n3_ n4_ n5_; clear ho hb hg hat; have q33 : (x5_1 : Int) ≤ ((l0.length : Int) : Int) := of_decide_eq_true (by first | (with_reducible assumption) | assumption); obtain ⟨i033, hi033, _, hsz33, _⟩ := info_parts info30; have hroom33 : l0.length ≤ co24 := (Kd.R_reads' HO_0.out).2.1; have hC33 : Kd.C k30 _ (some ad160) l0.length l0 := (Kd.R_reads' HO_0.out).2.2; have q033 : (0 : Int) ≤ (x5_1 : Int) := of_decide_eq_true (by first | (with_reducible assumption) | assumption); have hcut33 := cut_from (P := Try.prog) 36 30 .i64 Try.underlying36 hi033 12 hsz33 (some ad160) l0.length co24 x5_1 q033 q33; have hr33 := Kd.C_drop (m := (x5_1 : Int).toNat) (c := co24) hC33 (by omega) hroom33; obtain ⟨A33, hA33⟩ : ∃ A1, A1 = (if co24 = (x5_1 : Int).toNat then (some ad160) else ((some ad160) : Option Addr).map (·.add ((x5_1 : Int).toNat * 12))) := ⟨_, rfl⟩; obtain ⟨c33, hc33⟩ : ∃ c1, c1 = co24 - (x5_1 : Int).toNat := ⟨_, rfl⟩; have hy33 : y176.length = l0.length - (x5_1 : Int).toNat := (by rw [Ny176.out, List.length_drop] <;> omega); rw [show (l0).drop (x5_1 : Int).toNat = y176 from Ny176.out.symm] at hr33; replace hr33 : Kd.C k30 _ A33 y176.length y176 := (by rw [hA33]; exact hr33); rw [← hy33, ← hA33, ← hc33] at hcut33; have HR179 := Aside0.mk hr33; have HC179 := Aside0.mk (show y176.length ≤ c33 from by rw [hy33, hc33]; exact Nat.sub_le_sub_right hroom33 _); clear hr33 hC33 hroom33 hi033 hsz33 hc33; have KY33 := Aside0.mk hy33; have KA33 := Aside0.mk hA33; clear hy33 hA33; have KL33 := Aside0.mk (show (x5_1 : Int).toNat ≤ l0.length from by omega); replace q33 := eq_true q33) | ((with_reducible refine gate_builtin (b := .append) (xs := #[.tmp 47, .tmp 50]) rfl ?_); at_builtin; refine Kd.R_append_rows k30 (w0 := w0) w0.heap.size rfl (.tmp 47) (.tmp 50) 36 30 (.agg #[(.int .i64 0), (.int .i64 0), (.int .i64 0), (.int .i64 0), (.int .i64 0), (.int .i64 0), (.int .i64 0), (.int .i64 0), (.int .i64 0), (.int .i64 0), (.bool false), (.string ⟨#[]⟩)]) 104 rfl Try.underlying36 info30 rfl (by decide) (by omega) v174 y173 y176 _ _ _ (fun k_ => (P0_ k_ ∨ w.heap.size ≤ k_) ∧ some k_ ≠ (.slice (some ad160) l0.length co24 : Value).ownBlock ∧ k_ ≠ gb159) (fun _ => False) rfl rfl ?aO ?aR (fun _ _ h => h) (fun _ h => h.elim) ?aF ?aB ?aS ?aL ?_; (case aR => repeat (first | exact (by repeat (first | (with_reducible exact HR179.out) | (with_reducible refine Kd.C_alloc ?_ _) | (with_reducible refine Kd.C_drewN ?_ _) | (with_reducible refine Kd.C_drew ?_) | exact HR179.out)) | (with_reducible refine Kd.C_alloc ?_ _) | (with_reducible refine Kd.C_drewN ?_ _) | (with_reducible refine Kd.C_drew ?_))); (case aB => exact (by repeat (first | (with_reducible first | exact HB.out | apply below_alloc | apply pw_below_drewN | apply below_drew1 | refine below_set ?_ GE159.out) | exact HB.out))); (case aF => exact (fun k_ hk => ⟨(.inr (Nat.le_trans (by first | exact HK.out.1 | exact (show Kept w _ (fun k_ => P0_ k_) from by repeat (first | (with_reducible first | exact HK.out | apply Kept.alloc | apply Kept.drewN | apply Kept.drew | refine Kept.setCell ?_ (.inr GW159.out) _) | exact HK.out)).1) hk)), Kd.fresh' (Kd.R_lt (by (with_reducible repeat (first | apply Kd.R_alloc | apply Kd.R_drewN | apply Kd.R_drew)); exact HO_0.out)) k_ hk, Kd.freshB (g := gb159) (o := .cells #[.int .i64 a1_0, .int .i64 a1_1, .int .i64 a1_2, .int .i64 a1_3, .int .i64 a1_4, .int .i64 a1_5, .int .i64 a1_6, .int .i64 a1_7, .int .i64 a1_8, .int .i64 a1_9, .bool a1_10, .string a1_11] 30 (0, 0)) (by (with_reducible repeat (first | refine blk_drewN ?_ _ | refine blk_drew ?_ | refine blk_alloc ?_ _)); exact BK159.out) k_ hk⟩)); (case aO => exact (by (with_reducible repeat (first | apply Kd.R_alloc | apply Kd.R_drewN | apply Kd.R_drew)); exact HO175.out)); (case aS => exact (below_size (by repeat (first | (with_reducible first | exact HB.out | apply below_alloc | apply pw_below_drewN | apply below_drew1 | refine below_set ?_ GE159.out) | exact HB.out)))); (case aL => have := LMc22.out; omega); intro v181 w34 ho hb hg hat; rw [← Ny180.out] at ho; have n0_ := Aside0.mk (Kd.R_after (ok := (fun k_ => (P0_ k_ ∨ w.heap.size ≤ k_) ∧ k_ ≠ gb159)) (by (with_reducible repeat (first | apply Kd.R_alloc | apply Kd.R_drewN | apply Kd.R_drew)); exact HO_0.out) hg hat); have n1_ := Aside0.mk (blk_grown (g := gb159) (o := .cells #[.int .i64 a1_0, .int .i64 a1_1, .int .i64 a1_2, .int .i64 a1_3, .int .i64 a1_4, .int .i64 a1_5, .int .i64 a1_6, .int .i64 a1_7, .int .i64 a1_8, .int .i64 a1_9, .bool a1_10, .string a1_11] 30 (0, 0)) (by (with_reducible repeat (first | refine blk_drewN ?_ _ | refine blk_drew ?_ | refine blk_alloc ?_ _)); exact BK159.out) hg (Kd.R_away HO175.out (fun _ hk => hk.2.2))); have n2_ := Aside0.mk (hb); have n3_ := Aside0.mk (Kept.of_grown (S := (fun k_ => P0_ k_)) hg (by repeat (first | (with_reducible first | exact HK.out | apply Kept.alloc | apply Kept.drewN | apply Kept.drew | refine Kept.setCell ?_ (.inr GW159.out) _) | exact HK.out)) (fun k_ e_ => (HO175.out.1 k_ e_).1)); have n4_ := Aside0.mk ((show Kd.C k30 w34 (some ad160) y166.length y166 from by rw [Ny166.out]; exact Kd.C_take (m := (x5_1 : Int).toNat) ((Kd.R_reads' (Kd.R_after (ok := (fun k_ => (P0_ k_ ∨ w.heap.size ≤ k_) ∧ k_ ≠ gb159)) (by (with_reducible repeat (first | apply Kd.R_alloc | apply Kd.R_drewN | apply Kd.R_drew)); exact HO_0.out) hg hat)).2.2) KL29.out)); have n5_ := Aside0.mk ((show Kd.C k30 w34 A33 y176.length y176 from by rw [Ny176.out, KA33.out]; exact Kd.C_drop (m := (x5_1 : Int).toNat) (c := co24) ((Kd.R_reads' (Kd.R_after (ok := (fun k_ => (P0_ k_ ∨ w.heap.size ≤ k_) ∧ k_ ≠ gb159)) (by (with_reducible repeat (first | apply Kd.R_alloc | apply Kd.R_drewN | apply Kd.R_drew)); exact HO_0.out) hg hat)).2.2) KL33.out ((Kd.R_reads' (Kd.R_after (ok := (fun k_ => (P0_ k_ ∨ w.heap.size ≤ k_) ∧ k_ ≠ gb159)) (by (with_reducible repeat (first | apply Kd.R_alloc | apply Kd.R_drewN | apply Kd.R_drew)); exact HO_0.out) hg hat)).2.1))); have n6_ := Aside0.mk (ho); clear HO_0; clear BK159; clear HB; clear HK; clear HR169; clear HR179; clear HO175; have HO_0 := n0_; have BK159 := n1_; have HB := n2_; have HK := n3_; have HR169 := n4_; have HR179 := n5_; have HO182 := n6_; clear n0_ n1_ n2_ n3_ n4_ n5_ n6_; clear ho hb hg hat))
           go_ret
           exact ⟨_, by first | rfl | (simp [errW_none, errW_some] <;> rfl) | (simp [*, errW_none, errW_some] <;> rfl), by (with_reducible repeat (first | apply Kd.R_alloc | apply Kd.R_drewN | apply Kd.R_drew)); exact Kd.R_mono HO182.out (fun _ hk => hk.1), by repeat (first | (with_reducible first | exact HB.out | apply below_alloc | apply pw_below_drewN | apply below_drew1 | refine below_set ?_ GE159.out) | exact HB.out), by repeat (first | (with_reducible first | exact HK.out | apply Kept.alloc | apply Kept.drewN | apply Kept.drew | refine Kept.setCell ?_ (.inr GW159.out) _) | exact HK.out)⟩
          ·rw [if_neg c22] at H
           exact absurd H (by simp)
         ·rw [if_neg c19] at H
          exact absurd H (by simp)
        ·rw [if_neg c18] at H
         exact absurd H (by simp)
       ·rw [if_neg c17] at H
        exact absurd H (by simp)
    ·rw [if_neg c5] at H
     exact absurd H (by simp)
   ·rw [if_neg c4] at H
    have c4b0 : decide (x5_1 < (l0.length : Int)) = false := decide_eq_false c4
    clear c4
    obtain ⟨y183, hy183⟩ : ∃ y_ : List (S30), y_ = (([] : List (S30))) := ⟨_, rfl⟩
    replace H : (if 0 ≤ x5_1 then (if x5_1 ≤ (l0.length : Int) then ((some (l0.take (x5_1 : Int).toNat : List (S30))).bind fun y186 => (if y183.length + y186.length < 1353245080339 then ((some (y183 ++ y186 : List (S30))).bind fun y190 => (if y190.length < 1353245080339 then ((some (y190 ++ [(⟨(⟨a1_0, a1_1⟩ : S28), a1_2, (⟨a1_3, a1_4⟩ : S28), (⟨a1_5, a1_6⟩ : S28), (⟨a1_7, a1_8⟩ : S28), a1_9, a1_10, a1_11⟩ : S30)] : List (S30))).bind fun y193 => ((some (l0.drop (x5_1 : Int).toNat : List (S30))).bind fun y196 => (if y193.length + y196.length < 1353245080339 then (some (y193 ++ y196)) else (none)))) else (none))) else (none))) else (none)) else (none)) = some r := by first | (rw [hy183]; with_reducible exact H) | (have H2_ := (Option.bind_some _ _).symm.trans H; rw [hy183]; with_reducible exact H2_) | (have H2_ := (Option.bind_some _ _).symm.trans H; with_reducible exact H2_) | with_reducible exact H | (rw [hy183]; exact H) | exact H
    have Ny183 := Aside0.mk hy183
    clear hy183
    by_cases c35 : 0 ≤ x5_1
    ·rw [if_pos c35] at H
     have c35b0 := eq_true c35
     have c35b1 : decide (0 ≤ x5_1) = true := decide_eq_true c35
     clear c35
     by_cases c36 : x5_1 ≤ (l0.length : Int)
     ·rw [if_pos c36] at H
      have c36b0 := eq_true c36
      have c36b1 : decide (x5_1 ≤ (l0.length : Int)) = true := decide_eq_true c36
      clear c36
      obtain ⟨y186, hy186⟩ : ∃ y_ : List (S30), y_ = (l0.take (x5_1 : Int).toNat) := ⟨_, rfl⟩
      replace H : (if y183.length + y186.length < 1353245080339 then ((some (y183 ++ y186 : List (S30))).bind fun y190 => (if y190.length < 1353245080339 then ((some (y190 ++ [(⟨(⟨a1_0, a1_1⟩ : S28), a1_2, (⟨a1_3, a1_4⟩ : S28), (⟨a1_5, a1_6⟩ : S28), (⟨a1_7, a1_8⟩ : S28), a1_9, a1_10, a1_11⟩ : S30)] : List (S30))).bind fun y193 => ((some (l0.drop (x5_1 : Int).toNat : List (S30))).bind fun y196 => (if y193.length + y196.length < 1353245080339 then (some (y193 ++ y196)) else (none)))) else (none))) else (none)) = some r := by first | (rw [hy186]; with_reducible exact H) | (have H2_ := (Option.bind_some _ _).symm.trans H; rw [hy186]; with_reducible exact H2_) | (have H2_ := (Option.bind_some _ _).symm.trans H; with_reducible exact H2_) | with_reducible exact H | (rw [hy186]; exact H) | exact H
      have Ny186 := Aside0.mk hy186
      clear hy186
      by_cases c37 : y183.length + y186.length < 1353245080339
      ·rw [if_pos c37] at H
       have LMc37 := Aside0.mk c37
       clear c37
       obtain ⟨y190, hy190⟩ : ∃ y_ : List (S30), y_ = (y183 ++ y186) := ⟨_, rfl⟩
       replace H : (if y190.length < 1353245080339 then ((some (y190 ++ [(⟨(⟨a1_0, a1_1⟩ : S28), a1_2, (⟨a1_3, a1_4⟩ : S28), (⟨a1_5, a1_6⟩ : S28), (⟨a1_7, a1_8⟩ : S28), a1_9, a1_10, a1_11⟩ : S30)] : List (S30))).bind fun y193 => ((some (l0.drop (x5_1 : Int).toNat : List (S30))).bind fun y196 => (if y193.length + y196.length < 1353245080339 then (some (y193 ++ y196)) else (none)))) else (none)) = some r := by first | (rw [hy190]; with_reducible exact H) | (have H2_ := (Option.bind_some _ _).symm.trans H; rw [hy190]; with_reducible exact H2_) | (have H2_ := (Option.bind_some _ _).symm.trans H; with_reducible exact H2_) | with_reducible exact H | (rw [hy190]; exact H) | exact H
       have Ny190 := Aside0.mk hy190
       clear hy190
       by_cases c38 : y190.length < 1353245080339
       ·rw [if_pos c38] at H
        have LMc38 := Aside0.mk c38
        clear c38
        obtain ⟨y193, hy193⟩ : ∃ y_ : List (S30), y_ = (y190 ++ [(⟨(⟨a1_0, a1_1⟩ : S28), a1_2, (⟨a1_3, a1_4⟩ : S28), (⟨a1_5, a1_6⟩ : S28), (⟨a1_7, a1_8⟩ : S28), a1_9, a1_10, a1_11⟩ : S30)]) := ⟨_, rfl⟩
        replace H : ((some (l0.drop (x5_1 : Int).toNat : List (S30))).bind fun y196 => (if y193.length + y196.length < 1353245080339 then (some (y193 ++ y196)) else (none))) = some r := by first | (rw [hy193]; with_reducible exact H) | (have H2_ := (Option.bind_some _ _).symm.trans H; rw [hy193]; with_reducible exact H2_) | (have H2_ := (Option.bind_some _ _).symm.trans H; with_reducible exact H2_) | with_reducible exact H | (rw [hy193]; exact H) | exact H
        have Ny193 := Aside0.mk hy193
        clear hy193
        have c39b0 := eq_true (of_decide_eq_true (by first | (with_reducible assumption) | assumption) : 0 ≤ x5_1)
        have c40b0 := eq_true (of_decide_eq_true (by first | (with_reducible assumption) | assumption) : x5_1 ≤ (l0.length : Int))
        obtain ⟨y196, hy196⟩ : ∃ y_ : List (S30), y_ = (l0.drop (x5_1 : Int).toNat) := ⟨_, rfl⟩
        replace H : (if y193.length + y196.length < 1353245080339 then (some (y193 ++ y196)) else (none)) = some r := by first | (rw [hy196]; with_reducible exact H) | (have H2_ := (Option.bind_some _ _).symm.trans H; rw [hy196]; with_reducible exact H2_) | (have H2_ := (Option.bind_some _ _).symm.trans H; with_reducible exact H2_) | with_reducible exact H | (rw [hy196]; exact H) | exact H
        have Ny196 := Aside0.mk hy196
        clear hy196
        by_cases c41 : y193.length + y196.length < 1353245080339
        ·rw [if_pos c41] at H
         have LMc41 := Aside0.mk c41
         clear c41
         obtain ⟨y200, hy200⟩ : ∃ y_ : List (S30), y_ = (y193 ++ y196) := ⟨_, rfl⟩
         replace H : (some y200) = some r := by first | (rw [hy200]; with_reducible exact H) | (have H2_ := (Option.bind_some _ _).symm.trans H; rw [hy200]; with_reducible exact H2_) | (have H2_ := (Option.bind_some _ _).symm.trans H; with_reducible exact H2_) | with_reducible exact H | (rw [hy200]; exact H) | exact H
         have Ny200 := Aside0.mk hy200
         clear hy200
         obtain rfl := Option.some.inj H
         try go_wp2
         have n0_ := Aside0.mk (Kd.R_drew HO_0.out)
         have n1_ := Aside0.mk (blk_drew BK159.out)
         have n2_ := Aside0.mk (Kept.drew HK.out)
         have n3_ := Aside0.mk (below_drew1 HB.out)
         clear HO_0
         clear BK159
         clear HK
         clear HB
         have HO_0 := n0_
         have BK159 := n1_
         have HK := n2_
         have HB := n3_
         clear n0_ n1_ n2_ n3_
         obtain ⟨Ao43, co43, eo43⟩ := Kd.R_slice HO_0.out
         (first | subst eo43 | (injection eo43 with f1_ f2_ f3_; have f4_ := f1_.symm; have f5_ := f3_.symm; clear f1_ f2_ f3_; subst f4_; subst f5_))
         refine start_ (n := 14) (S := fun w' => True) (ds := []) qx13_0 (by kernel_rfl) rfl rfl trivial (fun hHeld => ?_); refine with_tabW spec_insertOp.tab2 spec_insertOp.bits2 (fun HT_ HW_ => ?_)
         generalize wr.drew = w42 at HO_0 BK159 HK HB hHeld ⊢
         refine pure_ (i := 0) (N := some 7) (v := ?_) (a' := ?_) qx13_1 rfl rfl (any_of HT_.out (by kernel_rfl)) (fun _ _ _ h => h) (Or.inl ⟨by rfl, ?_⟩) ?_ ?_
         rotate_left
         ·intro w'
          go_simp
          with_reducible rfl
         rotate_left
         ·simp only [putS]
          rfl
         refine pure_ (i := 1) (N := some 8) (v := ?_) (a' := ?_) qx13_2 rfl rfl (any_of HT_.out (by kernel_rfl)) (fun _ _ _ h => h) (Or.inl ⟨by rfl, ?_⟩) ?_ ?_
         rotate_left
         ·intro w'
          go_simp
          with_reducible rfl
         rotate_left
         ·simp only [putS]
          rfl
         refine pure_ (i := 2) (N := some 9) (v := ?_) (a' := ?_) qx13_3 rfl rfl (any_of HT_.out (by kernel_rfl)) (fun _ _ _ h => h) (Or.inl ⟨by rfl, ?_⟩) ?_ ?_
         rotate_left
         ·intro w'
          go_simp
          with_reducible rfl
         rotate_left
         ·simp only [putS]
          rfl
         refine pure_ (i := 3) (N := some 10) (v := ?_) (a' := ?_) qx13_4 rfl rfl (any_of HT_.out (by kernel_rfl)) (fun _ _ _ h => h) (Or.inl ⟨by rfl, ?_⟩) ?_ ?_
         rotate_left
         ·intro w'
          go_simp
          with_reducible rfl
         rotate_left
         ·simp only [putS]
          rfl
         refine pure_ (i := 4) (N := some 11) (v := ?_) (a' := ?_) qx13_5 rfl rfl (any_of HT_.out (by kernel_rfl)) (fun _ _ _ h => h) (Or.inl ⟨by rfl, ?_⟩) ?_ ?_
         rotate_left
         ·intro w'
          go_simp
          with_reducible rfl
         rotate_left
         ·simp only [putS]
          rfl
         refine pure_ (i := 5) (N := some 12) (v := undef) (a' := ?_) qx13_6 rfl rfl (any_of HT_.out (by kernel_rfl)) (fun _ _ _ h => h) (Or.inr ⟨by rfl, rfl⟩) ?_ ?_
         rotate_left
         ·simp only [putS]
          rfl
         refine pure_ (i := 6) (N := some 13) (v := undef) (a' := ?_) qx13_7 rfl rfl (any_of HT_.out (by kernel_rfl)) (fun _ _ _ h => h) (Or.inr ⟨by rfl, rfl⟩) ?_ ?_
         rotate_left
         ·simp only [putS]
          rfl
         refine pure_ (i := 7) (N := some 14) (v := undef) (a' := ?_) qx13_8 rfl rfl (any_of HT_.out (by kernel_rfl)) (fun _ _ _ h => h) (Or.inr ⟨by rfl, rfl⟩) ?_ ?_
         rotate_left
         ·simp only [putS]
          rfl
         refine pure_ (i := 8) (N := some 15) (v := undef) (a' := ?_) qx13_9 rfl rfl (any_of HT_.out (by kernel_rfl)) (fun _ _ _ h => h) (Or.inr ⟨by rfl, rfl⟩) ?_ ?_
         rotate_left
         ·simp only [putS]
          rfl
         refine pure_ (i := 9) (N := some 16) (v := undef) (a' := ?_) qx13_15 rfl rfl (any_of HT_.out (by kernel_rfl)) (fun _ _ _ h => h) (Or.inr ⟨by rfl, rfl⟩) ?_ ?_
         rotate_left
         ·simp only [putS]
          rfl
         refine pure_ (i := 10) (N := some 17) (v := undef) (a' := ?_) qx13_10 rfl rfl (any_of HT_.out (by kernel_rfl)) (fun _ _ _ h => h) (Or.inr ⟨by rfl, rfl⟩) ?_ ?_
         rotate_left
         ·simp only [putS]
          rfl
         refine pure_ (i := 11) (N := some 18) (v := undef) (a' := ?_) qx13_11 rfl rfl (any_of HT_.out (by kernel_rfl)) (fun _ _ _ h => h) (Or.inr ⟨by rfl, rfl⟩) ?_ ?_
         rotate_left
         ·simp only [putS]
          rfl
         refine pure_ (i := 12) (N := some 19) (v := undef) (a' := ?_) qx13_12 rfl rfl (any_of HT_.out (by kernel_rfl)) (fun _ _ _ h => h) (Or.inr ⟨by rfl, rfl⟩) ?_ ?_
         rotate_left
         ·simp only [putS]
          rfl
         refine pure_ (i := 13) (N := some 20) (v := ?_) (a' := ?_) qx13_13 rfl rfl (any_of HT_.out (by kernel_rfl)) (fun _ _ _ h => h) (Or.inl ⟨by rfl, ?_⟩) ?_ ?_
         rotate_left
         ·intro w'
          go_simp
          with_reducible rfl
         rotate_left
         ·simp only [putS]
          rfl
         refine done_ (done_of HT_.out (by kernel_rfl)) ?_
         try go_wp2
         have n0_ := Aside0.mk (Kd.R_drew HO_0.out)
         have n1_ := Aside0.mk (blk_drew BK159.out)
         have n2_ := Aside0.mk (Kept.drew HK.out)
         have n3_ := Aside0.mk (below_drew1 HB.out)
         clear HO_0
         clear BK159
         clear HK
         clear HB
         have HO_0 := n0_
         have BK159 := n1_
         have HK := n2_
         have HB := n3_
         clear n0_ n1_ n2_ n3_
         refine start_ (n := 14) (S := fun w' => True) (ds := []) qx13_0 (by kernel_rfl) rfl rfl trivial (fun hHeld => ?_); refine with_tabW spec_insertOp.tab4 spec_insertOp.bits4 (fun HT_ HW_ => ?_)
         generalize w42.drew = w44 at HO_0 BK159 HK HB hHeld ⊢
         refine pure_ (i := 0) (N := some 23) (v := ?_) (a' := ?_) qx13_1 rfl rfl (any_of HT_.out (by kernel_rfl)) (fun _ _ _ h => h) (Or.inl ⟨by rfl, ?_⟩) ?_ ?_
         rotate_left
         ·intro w'
          go_simp
          with_reducible rfl
         rotate_left
         ·simp only [putS]
          rfl
         refine pure_ (i := 1) (N := some 24) (v := ?_) (a' := ?_) qx13_2 rfl rfl (any_of HT_.out (by kernel_rfl)) (fun _ _ _ h => h) (Or.inl ⟨by rfl, ?_⟩) ?_ ?_
         rotate_left
         ·intro w'
          go_simp
          with_reducible rfl
         rotate_left
         ·simp only [putS]
          rfl
         refine pure_ (i := 2) (N := some 25) (v := ?_) (a' := ?_) qx13_3 rfl rfl (any_of HT_.out (by kernel_rfl)) (fun _ _ _ h => h) (Or.inl ⟨by rfl, ?_⟩) ?_ ?_
         rotate_left
         ·intro w'
          go_simp
          with_reducible rfl
         rotate_left
         ·simp only [putS]
          rfl
         refine pure_ (i := 3) (N := some 26) (v := ?_) (a' := ?_) qx13_4 rfl rfl (any_of HT_.out (by kernel_rfl)) (fun _ _ _ h => h) (Or.inl ⟨by rfl, ?_⟩) ?_ ?_
         rotate_left
         ·intro w'
          go_simp
          with_reducible rfl
         rotate_left
         ·simp only [putS]
          rfl
         refine pure_ (i := 4) (N := some 27) (v := ?_) (a' := ?_) qx13_5 rfl rfl (any_of HT_.out (by kernel_rfl)) (fun _ _ _ h => h) (Or.inl ⟨by rfl, ?_⟩) ?_ ?_
         rotate_left
         ·intro w'
          go_simp
          with_reducible rfl
         rotate_left
         ·simp only [putS]
          rfl
         refine pure_ (i := 5) (N := some 28) (v := undef) (a' := ?_) qx13_6 rfl rfl (any_of HT_.out (by kernel_rfl)) (fun _ _ _ h => h) (Or.inr ⟨by rfl, rfl⟩) ?_ ?_
         rotate_left
         ·simp only [putS]
          rfl
         refine pure_ (i := 6) (N := some 29) (v := undef) (a' := ?_) qx13_7 rfl rfl (any_of HT_.out (by kernel_rfl)) (fun _ _ _ h => h) (Or.inr ⟨by rfl, rfl⟩) ?_ ?_
         rotate_left
         ·simp only [putS]
          rfl
         refine pure_ (i := 7) (N := some 30) (v := undef) (a' := ?_) qx13_8 rfl rfl (any_of HT_.out (by kernel_rfl)) (fun _ _ _ h => h) (Or.inr ⟨by rfl, rfl⟩) ?_ ?_
         rotate_left
         ·simp only [putS]
          rfl
         refine pure_ (i := 8) (N := some 31) (v := undef) (a' := ?_) qx13_9 rfl rfl (any_of HT_.out (by kernel_rfl)) (fun _ _ _ h => h) (Or.inr ⟨by rfl, rfl⟩) ?_ ?_
         rotate_left
         ·simp only [putS]
          rfl
         refine pure_ (i := 9) (N := some 32) (v := undef) (a' := ?_) qx13_15 rfl rfl (any_of HT_.out (by kernel_rfl)) (fun _ _ _ h => h) (Or.inr ⟨by rfl, rfl⟩) ?_ ?_
         rotate_left
         ·simp only [putS]
          rfl
         refine pure_ (i := 10) (N := some 33) (v := undef) (a' := ?_) qx13_10 rfl rfl (any_of HT_.out (by kernel_rfl)) (fun _ _ _ h => h) (Or.inr ⟨by rfl, rfl⟩) ?_ ?_
         rotate_left
         ·simp only [putS]
          rfl
         refine pure_ (i := 11) (N := some 34) (v := undef) (a' := ?_) qx13_11 rfl rfl (any_of HT_.out (by kernel_rfl)) (fun _ _ _ h => h) (Or.inr ⟨by rfl, rfl⟩) ?_ ?_
         rotate_left
         ·simp only [putS]
          rfl
         refine pure_ (i := 12) (N := some 35) (v := undef) (a' := ?_) qx13_12 rfl rfl (any_of HT_.out (by kernel_rfl)) (fun _ _ _ h => h) (Or.inr ⟨by rfl, rfl⟩) ?_ ?_
         rotate_left
         ·simp only [putS]
          rfl
         refine pure_ (i := 13) (N := some 36) (v := ?_) (a' := ?_) qx13_13 rfl rfl (any_of HT_.out (by kernel_rfl)) (fun _ _ _ h => h) (Or.inl ⟨by rfl, ?_⟩) ?_ ?_
         rotate_left
         ·intro w'
          go_simp
          with_reducible rfl
         rotate_left
         ·simp only [putS]
          rfl
         refine done_ (done_of HT_.out (by kernel_rfl)) ?_
         try go_wp2_with (first | ((with_reducible refine gate_dst (N := 38) rfl ?_); refine Kd.R_lit k30 _ 30 ?hg (N := 38) ?hd (xs := ([] : List (S30))) (inner := []) (ok := fun _ => True) (okp := fun _ => True) ?hr ?hp (fun _ hk => hk) trivial (Below.refl _ _) (Nat.le_refl _) (by simp) ?_; (case hd => rfl); (case hg => rfl); (case hr => first | (go_simp; done) | (go_simp; rfl)); (case hp => exact (Reps.none _ _)); intro v184 w45 ho46 hb hg_ hnew_; clear hg_ hnew_; (first | rw [← Ny183.out] at ho46 | (simp only [Int.reduceToNat] at ho46; rw [← Ny183.out] at ho46)); have n0_ := Aside0.mk (Kd.R_elder' (by (with_reducible repeat (first | apply Kd.R_alloc | apply Kd.R_drewN | apply Kd.R_drew)); exact HO_0.out) (Kd.R_base ho46) hb); have n1_ := Aside0.mk (Kd.R_lower (Kd.R_newB (Kd.R_new' (Kd.R_newM (M := fun k_ => (P0_ k_ ∨ w.heap.size ≤ k_)) ho46 (by first | exact HK.out.1 | exact (show Kept w _ (fun k_ => P0_ k_) from by repeat (first | (with_reducible first | exact HK.out | apply Kept.alloc | apply Kept.drewN | apply Kept.drew | refine Kept.setCell ?_ (.inr GW159.out) _) | exact HK.out)).1) (fun k_ h_ => .inr h_)) (Kd.R_lt (by (with_reducible repeat (first | apply Kd.R_alloc | apply Kd.R_drewN | apply Kd.R_drew)); exact HO_0.out))) (g := gb159) (o := .cells #[.int .i64 a1_0, .int .i64 a1_1, .int .i64 a1_2, .int .i64 a1_3, .int .i64 a1_4, .int .i64 a1_5, .int .i64 a1_6, .int .i64 a1_7, .int .i64 a1_8, .int .i64 a1_9, .bool a1_10, .string a1_11] 30 (0, 0)) (by (with_reducible repeat (first | refine blk_drewN ?_ _ | refine blk_drew ?_ | refine blk_alloc ?_ _)); exact BK159.out)) (below_size (by repeat (first | (with_reducible first | exact HB.out | apply below_alloc | apply pw_below_drewN | apply below_drew1 | refine below_set ?_ GE159.out) | exact HB.out)))); have n2_ := Aside0.mk (blk_below (g := gb159) (o := .cells #[.int .i64 a1_0, .int .i64 a1_1, .int .i64 a1_2, .int .i64 a1_3, .int .i64 a1_4, .int .i64 a1_5, .int .i64 a1_6, .int .i64 a1_7, .int .i64 a1_8, .int .i64 a1_9, .bool a1_10, .string a1_11] 30 (0, 0)) (by (with_reducible repeat (first | refine blk_drewN ?_ _ | refine blk_drew ?_ | refine blk_alloc ?_ _)); exact BK159.out) hb); have n3_ := Aside0.mk (Kept.below (S := (fun k_ => P0_ k_)) (by repeat (first | (with_reducible first | exact HK.out | apply Kept.alloc | apply Kept.drewN | apply Kept.drew | refine Kept.setCell ?_ (.inr GW159.out) _) | exact HK.out)) hb); have n4_ := Aside0.mk (below_step (by repeat (first | (with_reducible first | exact HB.out | apply below_alloc | apply pw_below_drewN | apply below_drew1 | refine below_set ?_ GE159.out) | exact HB.out)) hb); clear HO_0; clear BK159; clear HK; clear HB; have HO_0 := n0_; have HO185 := n1_; have BK159 := n2_; have HK := n3_; have HB := n4_; clear n0_ n1_ n2_ n3_ n4_; clear hb ho46; have q47 : (x5_1 : Int) ≤ ((l0.length : Int) : Int) := of_decide_eq_true (by first | (with_reducible assumption) | assumption); obtain ⟨i047, hi047, _, hsz47, _⟩ := info_parts info30; have hroom47 : l0.length ≤ co43 := (Kd.R_reads' HO_0.out).2.1; have hC47 : Kd.C k30 _ Ao43 l0.length l0 := (Kd.R_reads' HO_0.out).2.2; have hcut47 := cut_to (P := Try.prog) 36 30 .i64 Try.underlying36 hi047 Ao43 l0.length co43 x5_1 (of_decide_eq_true (by first | (with_reducible assumption) | assumption)) q47 hroom47; have hr47 := Kd.C_take (m := (x5_1 : Int).toNat) hC47 (by omega); have hy47 : y186.length = (x5_1 : Int).toNat := (by rw [Ny186.out, List.length_take]; omega); rw [← Ny186.out] at hr47; rw [← hy47] at hcut47; have HR189 := Aside0.mk hr47; have HC189 := Aside0.mk (show y186.length ≤ co43 from by omega); clear hr47 hC47 hroom47 hi047 hsz47; have KY47 := Aside0.mk hy47; clear hy47; have KL47 := Aside0.mk (show (x5_1 : Int).toNat ≤ l0.length from by omega); replace q47 := eq_true q47) | ((with_reducible refine gate_builtin (b := .append) (xs := #[.tmp 38, .tmp 41]) rfl ?_); at_builtin; refine Kd.R_append_rows k30 (w0 := w0) w0.heap.size rfl (.tmp 38) (.tmp 41) 36 30 (.agg #[(.int .i64 0), (.int .i64 0), (.int .i64 0), (.int .i64 0), (.int .i64 0), (.int .i64 0), (.int .i64 0), (.int .i64 0), (.int .i64 0), (.int .i64 0), (.bool false), (.string ⟨#[]⟩)]) 104 rfl Try.underlying36 info30 rfl (by decide) (by omega) v184 y183 y186 _ _ _ (fun k_ => (P0_ k_ ∨ w.heap.size ≤ k_) ∧ some k_ ≠ (.slice Ao43 l0.length co43 : Value).ownBlock ∧ k_ ≠ gb159) (fun _ => False) rfl rfl ?aO ?aR (fun _ _ h => h) (fun _ h => h.elim) ?aF ?aB ?aS ?aL ?_; (case aR => repeat (first | exact (by repeat (first | (with_reducible exact HR189.out) | (with_reducible refine Kd.C_alloc ?_ _) | (with_reducible refine Kd.C_drewN ?_ _) | (with_reducible refine Kd.C_drew ?_) | exact HR189.out)) | (with_reducible refine Kd.C_alloc ?_ _) | (with_reducible refine Kd.C_drewN ?_ _) | (with_reducible refine Kd.C_drew ?_))); (case aB => exact (by repeat (first | (with_reducible first | exact HB.out | apply below_alloc | apply pw_below_drewN | apply below_drew1 | refine below_set ?_ GE159.out) | exact HB.out))); (case aF => exact (fun k_ hk => ⟨(.inr (Nat.le_trans (by first | exact HK.out.1 | exact (show Kept w _ (fun k_ => P0_ k_) from by repeat (first | (with_reducible first | exact HK.out | apply Kept.alloc | apply Kept.drewN | apply Kept.drew | refine Kept.setCell ?_ (.inr GW159.out) _) | exact HK.out)).1) hk)), Kd.fresh' (Kd.R_lt (by (with_reducible repeat (first | apply Kd.R_alloc | apply Kd.R_drewN | apply Kd.R_drew)); exact HO_0.out)) k_ hk, Kd.freshB (g := gb159) (o := .cells #[.int .i64 a1_0, .int .i64 a1_1, .int .i64 a1_2, .int .i64 a1_3, .int .i64 a1_4, .int .i64 a1_5, .int .i64 a1_6, .int .i64 a1_7, .int .i64 a1_8, .int .i64 a1_9, .bool a1_10, .string a1_11] 30 (0, 0)) (by (with_reducible repeat (first | refine blk_drewN ?_ _ | refine blk_drew ?_ | refine blk_alloc ?_ _)); exact BK159.out) k_ hk⟩)); (case aO => exact (by (with_reducible repeat (first | apply Kd.R_alloc | apply Kd.R_drewN | apply Kd.R_drew)); exact Kd.R_mono HO185.out (fun _ hk => ⟨hk.1.1.1, ⟨hk.1.2, hk.2⟩⟩))); (case aS => exact (below_size (by repeat (first | (with_reducible first | exact HB.out | apply below_alloc | apply pw_below_drewN | apply below_drew1 | refine below_set ?_ GE159.out) | exact HB.out)))); (case aL => have := LMc37.out; omega); intro v191 w48 ho hb hg hat; rw [← Ny190.out] at ho; have n0_ := Aside0.mk (Kd.R_after (ok := (fun k_ => (P0_ k_ ∨ w.heap.size ≤ k_) ∧ k_ ≠ gb159)) (by (with_reducible repeat (first | apply Kd.R_alloc | apply Kd.R_drewN | apply Kd.R_drew)); exact HO_0.out) hg hat); have n1_ := Aside0.mk (blk_grown (g := gb159) (o := .cells #[.int .i64 a1_0, .int .i64 a1_1, .int .i64 a1_2, .int .i64 a1_3, .int .i64 a1_4, .int .i64 a1_5, .int .i64 a1_6, .int .i64 a1_7, .int .i64 a1_8, .int .i64 a1_9, .bool a1_10, .string a1_11] 30 (0, 0)) (by (with_reducible repeat (first | refine blk_drewN ?_ _ | refine blk_drew ?_ | refine blk_alloc ?_ _)); exact BK159.out) hg (Kd.R_away HO185.out (fun _ hk => hk.2))); have n2_ := Aside0.mk (hb); have n3_ := Aside0.mk (Kept.of_grown (S := (fun k_ => P0_ k_)) hg (by repeat (first | (with_reducible first | exact HK.out | apply Kept.alloc | apply Kept.drewN | apply Kept.drew | refine Kept.setCell ?_ (.inr GW159.out) _) | exact HK.out)) (fun k_ e_ => (HO185.out.1 k_ e_).1.1.1)); have n4_ := Aside0.mk ((show Kd.C k30 w48 Ao43 y186.length y186 from by rw [Ny186.out]; exact Kd.C_take (m := (x5_1 : Int).toNat) ((Kd.R_reads' (Kd.R_after (ok := (fun k_ => (P0_ k_ ∨ w.heap.size ≤ k_) ∧ k_ ≠ gb159)) (by (with_reducible repeat (first | apply Kd.R_alloc | apply Kd.R_drewN | apply Kd.R_drew)); exact HO_0.out) hg hat)).2.2) KL47.out)); have n5_ := Aside0.mk (ho); clear HO_0; clear BK159; clear HB; clear HK; clear HR189; clear HO185; have HO_0 := n0_; have BK159 := n1_; have HB := n2_; have HK := n3_; have HR189 := n4_; have HO192 := n5_; clear n0_ n1_ n2_ n3_ n4_ n5_; clear ho hb hg hat; have hcz49_0 : w48.cell? ⟨gb159, 0, none⟩ = some (.int .i64 a1_0) := (blk_cell BK159.out 0).trans rfl; have hcz49_1 : w48.cell? ⟨gb159, 1, none⟩ = some (.int .i64 a1_1) := (blk_cell BK159.out 1).trans rfl; have hcz49_2 : w48.cell? ⟨gb159, 2, none⟩ = some (.int .i64 a1_2) := (blk_cell BK159.out 2).trans rfl; have hcz49_3 : w48.cell? ⟨gb159, 3, none⟩ = some (.int .i64 a1_3) := (blk_cell BK159.out 3).trans rfl; have hcz49_4 : w48.cell? ⟨gb159, 4, none⟩ = some (.int .i64 a1_4) := (blk_cell BK159.out 4).trans rfl; have hcz49_5 : w48.cell? ⟨gb159, 5, none⟩ = some (.int .i64 a1_5) := (blk_cell BK159.out 5).trans rfl; have hcz49_6 : w48.cell? ⟨gb159, 6, none⟩ = some (.int .i64 a1_6) := (blk_cell BK159.out 6).trans rfl; have hcz49_7 : w48.cell? ⟨gb159, 7, none⟩ = some (.int .i64 a1_7) := (blk_cell BK159.out 7).trans rfl; have hcz49_8 : w48.cell? ⟨gb159, 8, none⟩ = some (.int .i64 a1_8) := (blk_cell BK159.out 8).trans rfl; have hcz49_9 : w48.cell? ⟨gb159, 9, none⟩ = some (.int .i64 a1_9) := (blk_cell BK159.out 9).trans rfl; have hcz49_10 : w48.cell? ⟨gb159, 10, none⟩ = some (.bool a1_10) := (blk_cell BK159.out 10).trans rfl; have hcz49_11 : w48.cell? ⟨gb159, 11, none⟩ = some (.string a1_11) := (blk_cell BK159.out 11).trans rfl; have hfz49_0 := blk_frozen BK159.out 0; have hfz49_1 := blk_frozen BK159.out 1; have hfz49_2 := blk_frozen BK159.out 2; have hfz49_3 := blk_frozen BK159.out 3; have hfz49_4 := blk_frozen BK159.out 4; have hfz49_5 := blk_frozen BK159.out 5; have hfz49_6 := blk_frozen BK159.out 6; have hfz49_7 := blk_frozen BK159.out 7; have hfz49_8 := blk_frozen BK159.out 8; have hfz49_9 := blk_frozen BK159.out 9; have hfz49_10 := blk_frozen BK159.out 10; have hfz49_11 := blk_frozen BK159.out 11) | ((with_reducible refine gate_builtin (b := .append) (xs := #[.tmp 43, .tmp 45]) rfl ?_); at_builtin; refine Kd.R_append k30 (w0 := w0) w0.heap.size rfl (.tmp 43) (.tmp 45) 36 30 (.agg #[(.int .i64 0), (.int .i64 0), (.int .i64 0), (.int .i64 0), (.int .i64 0), (.int .i64 0), (.int .i64 0), (.int .i64 0), (.int .i64 0), (.int .i64 0), (.bool false), (.string ⟨#[]⟩)]) 104 rfl Try.underlying36 info30 rfl (by decide) (by omega) v191 y190 (⟨(⟨a1_0, a1_1⟩ : S28), a1_2, (⟨a1_3, a1_4⟩ : S28), (⟨a1_5, a1_6⟩ : S28), (⟨a1_7, a1_8⟩ : S28), a1_9, a1_10, a1_11⟩ : S30) [.int .i64 a1_0, .int .i64 a1_1, .int .i64 a1_2, .int .i64 a1_3, .int .i64 a1_4, .int .i64 a1_5, .int .i64 a1_6, .int .i64 a1_7, .int .i64 a1_8, .int .i64 a1_9, .bool a1_10, .string a1_11] (fun k_ => (P0_ k_ ∨ w.heap.size ≤ k_) ∧ some k_ ≠ (.slice Ao43 l0.length co43 : Value).ownBlock ∧ k_ ≠ gb159) (fun _ => False) rfl rfl ?aP (fun _ hk => hk.elim) ?aF ?aO ?aB ?aS ?aL ?_; (case aP => exact k30_mkM _ _ _ (⟨(⟨a1_0, a1_1⟩ : S28), a1_2, (⟨a1_3, a1_4⟩ : S28), (⟨a1_5, a1_6⟩ : S28), (⟨a1_7, a1_8⟩ : S28), a1_9, a1_10, a1_11⟩ : S30)); (case aB => exact (by repeat (first | (with_reducible first | exact HB.out | apply below_alloc | apply pw_below_drewN | apply below_drew1 | refine below_set ?_ GE159.out) | exact HB.out))); (case aF => exact (fun k_ hk => ⟨(.inr (Nat.le_trans (by first | exact HK.out.1 | exact (show Kept w _ (fun k_ => P0_ k_) from by repeat (first | (with_reducible first | exact HK.out | apply Kept.alloc | apply Kept.drewN | apply Kept.drew | refine Kept.setCell ?_ (.inr GW159.out) _) | exact HK.out)).1) hk)), Kd.fresh' (Kd.R_lt (by (with_reducible repeat (first | apply Kd.R_alloc | apply Kd.R_drewN | apply Kd.R_drew)); exact HO_0.out)) k_ hk, Kd.freshB (g := gb159) (o := .cells #[.int .i64 a1_0, .int .i64 a1_1, .int .i64 a1_2, .int .i64 a1_3, .int .i64 a1_4, .int .i64 a1_5, .int .i64 a1_6, .int .i64 a1_7, .int .i64 a1_8, .int .i64 a1_9, .bool a1_10, .string a1_11] 30 (0, 0)) (by (with_reducible repeat (first | refine blk_drewN ?_ _ | refine blk_drew ?_ | refine blk_alloc ?_ _)); exact BK159.out) k_ hk⟩)); (case aO => exact (by (with_reducible repeat (first | apply Kd.R_alloc | apply Kd.R_drewN | apply Kd.R_drew)); exact HO192.out)); (case aS => exact (below_size (by repeat (first | (with_reducible first | exact HB.out | apply below_alloc | apply pw_below_drewN | apply below_drew1 | refine below_set ?_ GE159.out) | exact HB.out)))); (case aL => have := LMc38.out; omega); intro v194 w50 ho hb hg hat; rw [← Ny193.out] at ho; have n0_ := Aside0.mk (Kd.R_after (ok := (fun k_ => (P0_ k_ ∨ w.heap.size ≤ k_) ∧ k_ ≠ gb159)) (by (with_reducible repeat (first | apply Kd.R_alloc | apply Kd.R_drewN | apply Kd.R_drew)); exact HO_0.out) hg hat); have n1_ := Aside0.mk (blk_grown (g := gb159) (o := .cells #[.int .i64 a1_0, .int .i64 a1_1, .int .i64 a1_2, .int .i64 a1_3, .int .i64 a1_4, .int .i64 a1_5, .int .i64 a1_6, .int .i64 a1_7, .int .i64 a1_8, .int .i64 a1_9, .bool a1_10, .string a1_11] 30 (0, 0)) (by (with_reducible repeat (first | refine blk_drewN ?_ _ | refine blk_drew ?_ | refine blk_alloc ?_ _)); exact BK159.out) hg (Kd.R_away HO192.out (fun _ hk => hk.2.2))); have n2_ := Aside0.mk (hb); have n3_ := Aside0.mk (Kept.of_grown (S := (fun k_ => P0_ k_)) hg (by repeat (first | (with_reducible first | exact HK.out | apply Kept.alloc | apply Kept.drewN | apply Kept.drew | refine Kept.setCell ?_ (.inr GW159.out) _) | exact HK.out)) (fun k_ e_ => (HO192.out.1 k_ e_).1)); have n4_ := Aside0.mk ((show Kd.C k30 w50 Ao43 y186.length y186 from by rw [Ny186.out]; exact Kd.C_take (m := (x5_1 : Int).toNat) ((Kd.R_reads' (Kd.R_after (ok := (fun k_ => (P0_ k_ ∨ w.heap.size ≤ k_) ∧ k_ ≠ gb159)) (by (with_reducible repeat (first | apply Kd.R_alloc | apply Kd.R_drewN | apply Kd.R_drew)); exact HO_0.out) hg hat)).2.2) KL47.out)); have n5_ := Aside0.mk (ho); clear HO_0; clear BK159; clear HB; clear HK; clear HR189; clear HO192; have HO_0 := n0_; have BK159 := n1_; have HB := n2_; have HK := n3_; have HR189 := n4_; have HO195 := n5_; clear n0_ n1_ n2_ n3_ n4_ n5_; clear ho hb hg hat; have q51 : (x5_1 : Int) ≤ ((l0.length : Int) : Int) := of_decide_eq_true (by first | (with_reducible assumption) | assumption); obtain ⟨i051, hi051, _, hsz51, _⟩ := info_parts info30; have hroom51 : l0.length ≤ co43 := (Kd.R_reads' HO_0.out).2.1; have hC51 : Kd.C k30 _ Ao43 l0.length l0 := (Kd.R_reads' HO_0.out).2.2; have q051 : (0 : Int) ≤ (x5_1 : Int) := of_decide_eq_true (by first | (with_reducible assumption) | assumption); have hcut51 := cut_from (P := Try.prog) 36 30 .i64 Try.underlying36 hi051 12 hsz51 Ao43 l0.length co43 x5_1 q051 q51; have hr51 := Kd.C_drop (m := (x5_1 : Int).toNat) (c := co43) hC51 (by omega) hroom51; obtain ⟨A51, hA51⟩ : ∃ A1, A1 = (if co43 = (x5_1 : Int).toNat then Ao43 else (Ao43 : Option Addr).map (·.add ((x5_1 : Int).toNat * 12))) := ⟨_, rfl⟩; obtain ⟨c51, hc51⟩ : ∃ c1, c1 = co43 - (x5_1 : Int).toNat := ⟨_, rfl⟩; have hy51 : y196.length = l0.length - (x5_1 : Int).toNat := (by rw [Ny196.out, List.length_drop] <;> omega); rw [show (l0).drop (x5_1 : Int).toNat = y196 from Ny196.out.symm] at hr51; replace hr51 : Kd.C k30 _ A51 y196.length y196 := (by rw [hA51]; exact hr51); rw [← hy51, ← hA51, ← hc51] at hcut51; have HR199 := Aside0.mk hr51; have HC199 := Aside0.mk (show y196.length ≤ c51 from by rw [hy51, hc51]; exact Nat.sub_le_sub_right hroom51 _); clear hr51 hC51 hroom51 hi051 hsz51 hc51; have KY51 := Aside0.mk hy51; have KA51 := Aside0.mk hA51; clear hy51 hA51; have KL51 := Aside0.mk (show (x5_1 : Int).toNat ≤ l0.length from by omega); replace q51 := eq_true q51) | ((with_reducible refine gate_builtin (b := .append) (xs := #[.tmp 47, .tmp 50]) rfl ?_); at_builtin; refine Kd.R_append_rows k30 (w0 := w0) w0.heap.size rfl (.tmp 47) (.tmp 50) 36 30 (.agg #[(.int .i64 0), (.int .i64 0), (.int .i64 0), (.int .i64 0), (.int .i64 0), (.int .i64 0), (.int .i64 0), (.int .i64 0), (.int .i64 0), (.int .i64 0), (.bool false), (.string ⟨#[]⟩)]) 104 rfl Try.underlying36 info30 rfl (by decide) (by omega) v194 y193 y196 _ _ _ (fun k_ => (P0_ k_ ∨ w.heap.size ≤ k_) ∧ some k_ ≠ (.slice Ao43 l0.length co43 : Value).ownBlock ∧ k_ ≠ gb159) (fun _ => False) rfl rfl ?aO ?aR (fun _ _ h => h) (fun _ h => h.elim) ?aF ?aB ?aS ?aL ?_; (case aR => repeat (first | exact (by repeat (first | (with_reducible exact HR199.out) | (with_reducible refine Kd.C_alloc ?_ _) | (with_reducible refine Kd.C_drewN ?_ _) | (with_reducible refine Kd.C_drew ?_) | exact HR199.out)) | (with_reducible refine Kd.C_alloc ?_ _) | (with_reducible refine Kd.C_drewN ?_ _) | (with_reducible refine Kd.C_drew ?_))); (case aB => exact (by repeat (first | (with_reducible first | exact HB.out | apply below_alloc | apply pw_below_drewN | apply below_drew1 | refine below_set ?_ GE159.out) | exact HB.out))); (case aF => exact (fun k_ hk => ⟨(.inr (Nat.le_trans (by first | exact HK.out.1 | exact (show Kept w _ (fun k_ => P0_ k_) from by repeat (first | (with_reducible first | exact HK.out | apply Kept.alloc | apply Kept.drewN | apply Kept.drew | refine Kept.setCell ?_ (.inr GW159.out) _) | exact HK.out)).1) hk)), Kd.fresh' (Kd.R_lt (by (with_reducible repeat (first | apply Kd.R_alloc | apply Kd.R_drewN | apply Kd.R_drew)); exact HO_0.out)) k_ hk, Kd.freshB (g := gb159) (o := .cells #[.int .i64 a1_0, .int .i64 a1_1, .int .i64 a1_2, .int .i64 a1_3, .int .i64 a1_4, .int .i64 a1_5, .int .i64 a1_6, .int .i64 a1_7, .int .i64 a1_8, .int .i64 a1_9, .bool a1_10, .string a1_11] 30 (0, 0)) (by (with_reducible repeat (first | refine blk_drewN ?_ _ | refine blk_drew ?_ | refine blk_alloc ?_ _)); exact BK159.out) k_ hk⟩)); (case aO => exact (by (with_reducible repeat (first | apply Kd.R_alloc | apply Kd.R_drewN | apply Kd.R_drew)); exact HO195.out)); (case aS => exact (below_size (by repeat (first | (with_reducible first | exact HB.out | apply below_alloc | apply pw_below_drewN | apply below_drew1 | refine below_set ?_ GE159.out) | exact HB.out)))); (case aL => have := LMc41.out; omega); intro v201 w52 ho hb hg hat; rw [← Ny200.out] at ho; have n0_ := Aside0.mk (Kd.R_after (ok := (fun k_ => (P0_ k_ ∨ w.heap.size ≤ k_) ∧ k_ ≠ gb159)) (by (with_reducible repeat (first | apply Kd.R_alloc | apply Kd.R_drewN | apply Kd.R_drew)); exact HO_0.out) hg hat); have n1_ := Aside0.mk (blk_grown (g := gb159) (o := .cells #[.int .i64 a1_0, .int .i64 a1_1, .int .i64 a1_2, .int .i64 a1_3, .int .i64 a1_4, .int .i64 a1_5, .int .i64 a1_6, .int .i64 a1_7, .int .i64 a1_8, .int .i64 a1_9, .bool a1_10, .string a1_11] 30 (0, 0)) (by (with_reducible repeat (first | refine blk_drewN ?_ _ | refine blk_drew ?_ | refine blk_alloc ?_ _)); exact BK159.out) hg (Kd.R_away HO195.out (fun _ hk => hk.2.2))); have n2_ := Aside0.mk (hb); have n3_ := Aside0.mk (Kept.of_grown (S := (fun k_ => P0_ k_)) hg (by repeat (first | (with_reducible first | exact HK.out | apply Kept.alloc | apply Kept.drewN | apply Kept.drew | refine Kept.setCell ?_ (.inr GW159.out) _) | exact HK.out)) (fun k_ e_ => (HO195.out.1 k_ e_).1)); have n4_ := Aside0.mk ((show Kd.C k30 w52 Ao43 y186.length y186 from by rw [Ny186.out]; exact Kd.C_take (m := (x5_1 : Int).toNat) ((Kd.R_reads' (Kd.R_after (ok := (fun k_ => (P0_ k_ ∨ w.heap.size ≤ k_) ∧ k_ ≠ gb159)) (by (with_reducible repeat (first | apply Kd.R_alloc | apply Kd.R_drewN | apply Kd.R_drew)); exact HO_0.out) hg hat)).2.2) KL47.out)); have n5_ := Aside0.mk ((show Kd.C k30 w52 A51 y196.length y196 from by rw [Ny196.out, KA51.out]; exact Kd.C_drop (m := (x5_1 : Int).toNat) (c := co43) ((Kd.R_reads' (Kd.R_after (ok := (fun k_ => (P0_ k_ ∨ w.heap.size ≤ k_) ∧ k_ ≠ gb159)) (by (with_reducible repeat (first | apply Kd.R_alloc | apply Kd.R_drewN | apply Kd.R_drew)); exact HO_0.out) hg hat)).2.2) KL51.out ((Kd.R_reads' (Kd.R_after (ok := (fun k_ => (P0_ k_ ∨ w.heap.size ≤ k_) ∧ k_ ≠ gb159)) (by (with_reducible repeat (first | apply Kd.R_alloc | apply Kd.R_drewN | apply Kd.R_drew)); exact HO_0.out) hg hat)).2.1))); have n6_ := Aside0.mk (ho); clear HO_0; clear BK159; clear HB; clear HK; clear HR189; clear HR199; clear HO195; have HO_0 := n0_; have BK159 := n1_; have HB := n2_; have HK := n3_; have HR189 := n4_; have HR199 := n5_; have HO202 := n6_; clear n0_ n1_ n2_ n3_ n4_ n5_ n6_; clear ho hb hg hat))
         go_ret
         exact ⟨_, by first | rfl | (simp [errW_none, errW_some] <;> rfl) | (simp [*, errW_none, errW_some] <;> rfl), by (with_reducible repeat (first | apply Kd.R_alloc | apply Kd.R_drewN | apply Kd.R_drew)); exact Kd.R_mono HO202.out (fun _ hk => hk.1), by repeat (first | (with_reducible first | exact HB.out | apply below_alloc | apply pw_below_drewN | apply below_drew1 | refine below_set ?_ GE159.out) | exact HB.out), by repeat (first | (with_reducible first | exact HK.out | apply Kept.alloc | apply Kept.drewN | apply Kept.drew | refine Kept.setCell ?_ (.inr GW159.out) _) | exact HK.out)⟩
        ·rw [if_neg c41] at H
         exact absurd H (by simp)
       ·rw [if_neg c38] at H
        exact absurd H (by simp)
      ·rw [if_neg c37] at H
       exact absurd H (by simp)
     ·rw [if_neg c36] at H
      exact absurd H (by simp)
    ·rw [if_neg c35] at H
     exact absurd H (by simp)

end Go.Proofs.Ytomigiindmojkaa.QG

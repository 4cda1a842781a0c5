/- A call of each function named here does what the Lean function of that name says. Conditions: each theorem's premises. Printed by the kit, repaired by a program, joined with texts by hand. -/
import Derived.Test.YtomigiindmojkaaQJx0
import Derived.Test.YtomigiindmojkaaQJx1
import Derived.Test.YtomigiindmojkaaQJx9
import Derived.Test.YtomigiindmojkaaQJx10
namespace Go.Proofs.Ytomigiindmojkaa.QJ
open Go.Proofs.Ytomigiindmojkaa.Base Go.RowKit Go.Proofs.YtomigiindmojkaaW.PrintWords Go.Proofs.YtomigiindmojkaaW.PrintLast Go.Proofs.YtomigiindmojkaaW.PrintMore
attribute [local go_sem] max2_int min2_int max_two min_two max_three min_three max_four min_four   -- for this text's walks alone
set_option linter.unusedVariables false
set_option linter.unusedSimpArgs false

attribute [local go_sem high] eqA28
def qx14_0 : Array Bool := #[false, false, false, false, false, false, false, false, false, false, false, false, false, false]
def qx14_1 : Array Bool := #[true, false, false, false, false, false, false, false, false, false, false, false, false, false]
def qx14_2 : Array Bool := #[true, true, false, false, false, false, false, false, false, false, false, false, false, false]
def qx14_3 : Array Bool := #[true, true, true, false, false, false, false, false, false, false, false, false, false, false]
def qx14_4 : Array Bool := #[true, true, true, true, false, false, false, false, false, false, false, false, false, false]
def qx14_5 : Array Bool := #[true, true, true, true, true, false, false, false, false, false, false, false, false, false]
def qx14_6 : Array Bool := #[true, true, true, true, true, true, false, false, false, false, false, false, false, false]
def qx14_7 : Array Bool := #[true, true, true, true, true, true, true, false, false, false, false, false, false, false]
def qx14_8 : Array Bool := #[true, true, true, true, true, true, true, true, false, false, false, false, false, false]
def qx14_9 : Array Bool := #[true, true, true, true, true, true, true, true, true, false, false, false, false, false]
def qx14_10 : Array Bool := #[true, true, true, true, true, true, true, true, true, true, true, false, false, false]
def qx14_11 : Array Bool := #[true, true, true, true, true, true, true, true, true, true, true, true, false, false]
def qx14_12 : Array Bool := #[true, true, true, true, true, true, true, true, true, true, true, true, true, false]
def qx14_13 : Array Bool := #[true, true, true, true, true, true, true, true, true, true, true, true, true, true]
def qx14_14 : Array Bool := #[true, true, true, true, true, true, true, true, true, false, true, false, false, false]
def qx14_15 : Array Bool := #[true, true, true, true, true, true, true, true, true, true, false, false, false, false]
/-! ### spec_insertOp: function 58 -/
def spec_insertOp.l0 : Nat → List (S30) → Int → Int → Int → Int → Int → Int → Int → Int → Int → Int → Int → Bool → ByteArray → Option ((List (S30)))
 | 0, _, _, _, _, _, _, _, _, _, _, _, _, _, _ => none
 | k + 1, x0, x5, x160000, x160001, x160002, x160003, x160004, x160005, x160006, x160007, x160008, x160009, x160010, x160011 => if x5 < (x0.length : Int) then (if 0 ≤ x5 then ((spec_stampLess.f ((rd_T30 x0 x5).f0.f0) ((rd_T30 x0 x5).f0.f1) x160000 x160001).bind fun t161 => (if t161 = true then (spec_insertOp.l0 k x0 (wrap64 (x5 + 1)) x160000 x160001 x160002 x160003 x160004 x160005 x160006 x160007 x160008 x160009 x160010 x160011) else (if (((rd_T30 x0 x5).f0.f0) == x160000 && (((rd_T30 x0 x5).f0.f1) == x160001)) = true then (some x0) else ((some (([] : List (S30)) : List (S30))).bind fun y163 => (if x5 ≤ (x0.length : Int) then ((some (x0.take (x5 : Int).toNat : List (S30))).bind fun y166 => (if y163.length + y166.length < 1353245080339 then ((some (y163 ++ y166 : List (S30))).bind fun y171 => (if y171.length < 1353245080339 then ((some (y171 ++ [(⟨(⟨x160000, x160001⟩ : S28), x160002, (⟨x160003, x160004⟩ : S28), (⟨x160005, x160006⟩ : S28), (⟨x160007, x160008⟩ : S28), x160009, x160010, x160011⟩ : S30)] : List (S30))).bind fun y174 => ((some (x0.drop (x5 : Int).toNat : List (S30))).bind fun y177 => (if y174.length + y177.length < 1353245080339 then (some (y174 ++ y177)) else (none)))) else (none))) else (none))) else (none)))))) else (none)) else ((some (([] : List (S30)) : List (S30))).bind fun y185 => (if 0 ≤ x5 then (if x5 ≤ (x0.length : Int) then ((some (x0.take (x5 : Int).toNat : List (S30))).bind fun y188 => (if y185.length + y188.length < 1353245080339 then ((some (y185 ++ y188 : List (S30))).bind fun y193 => (if y193.length < 1353245080339 then ((some (y193 ++ [(⟨(⟨x160000, x160001⟩ : S28), x160002, (⟨x160003, x160004⟩ : S28), (⟨x160005, x160006⟩ : S28), (⟨x160007, x160008⟩ : S28), x160009, x160010, x160011⟩ : S30)] : List (S30))).bind fun y196 => ((some (x0.drop (x5 : Int).toNat : List (S30))).bind fun y199 => (if y196.length + y199.length < 1353245080339 then (some (y196 ++ y199)) else (none)))) else (none))) else (none))) else (none)) else (none)))
def spec_insertOp.f (k : Nat) (l0 : List (S30)) (a1_0 : Int) (a1_1 : Int) (a1_2 : Int) (a1_3 : Int) (a1_4 : Int) (a1_5 : Int) (a1_6 : Int) (a1_7 : Int) (a1_8 : Int) (a1_9 : Int) (a1_10 : Bool) (a1_11 : ByteArray) : Option ((List (S30))) := spec_insertOp.l0 k l0 0 a1_0 a1_1 a1_2 a1_3 a1_4 a1_5 a1_6 a1_7 a1_8 a1_9 a1_10 a1_11
theorem spec_insertOp.mono_l : ∀ k, (∀ y0 y1 y2 y3 y4 y5 y6 y7 y8 y9 y10 y11 y12 y13, LeO (spec_insertOp.l0 k y0 y1 y2 y3 y4 y5 y6 y7 y8 y9 y10 y11 y12 y13) (spec_insertOp.l0 (k + 1) y0 y1 y2 y3 y4 y5 y6 y7 y8 y9 y10 y11 y12 y13))
 | 0 => fun _ _ _ _ _ _ _ _ _ _ _ _ _ _ r h => by simp [spec_insertOp.l0] at h
 | k + 1 => by
  have ih0 := spec_insertOp.mono_l k
  ·intro y0 y1 y2 y3 y4 y5 y6 y7 y8 y9 y10 y11 y12 y13
   unfold spec_insertOp.l0
   repeat' first
   | (with_reducible exact ih0 _ _ _ _ _ _ _ _ _ _ _ _ _ _)
   | (with_reducible exact LeO.refl _)
   | (with_reducible exact LeO.none _)
   | (with_reducible refine LeO.ite ?_ ?_)
   | (with_reducible refine LeO.bind ?_ (fun _ => ?_))
theorem spec_insertOp.mono : ∀ a0 a1 a2 a3 a4 a5 a6 a7 a8 a9 a10 a11 a12 k, LeO (spec_insertOp.f k a0 a1 a2 a3 a4 a5 a6 a7 a8 a9 a10 a11 a12) (spec_insertOp.f (k + 1) a0 a1 a2 a3 a4 a5 a6 a7 a8 a9 a10 a11 a12) := by
 intro a0 a1 a2 a3 a4 a5 a6 a7 a8 a9 a10 a11 a12 k
 have ih0 := spec_insertOp.mono_l k
 unfold spec_insertOp.f
 repeat' first
   | (with_reducible exact ih0 _ _ _ _ _ _ _ _ _ _ _ _ _ _)
   | (with_reducible exact LeO.refl _)
   | (with_reducible exact LeO.none _)
   | (with_reducible refine LeO.ite ?_ ?_)
   | (with_reducible refine LeO.bind ?_ (fun _ => ?_))
def spec_insertOp.T2 : Bool × List (List Nat × List Nat) := (true, [([], []), ([], []), ([1], [1]), ([0, 2], [0, 2]), ([3], [3]), ([4], [4]), ([4], [4]), ([5, 6, 4], [4, 5, 6]), ([7, 4], [4, 7]), ([8, 4], [4, 8]), ([4], [4]), ([10, 4], [4, 10]), ([9, 11, 4, 4], [4, 9, 11]), ([4, 12], [4, 12])])
def spec_insertOp.B2 : List Nat := [0, 0, 2, 7, 15, 31, 31, 127, 255, 511, 31, 1055, 4095, 8191]
theorem spec_insertOp.tab2 : rtab .any (opsOf Try.f58 2) = spec_insertOp.T2 := by kernel_rfl
theorem spec_insertOp.bits2 : waitsOk spec_insertOp.T2.2 spec_insertOp.B2 = true := by kernel_rfl
def spec_insertOp.T4 : Bool × List (List Nat × List Nat) := (true, [([], []), ([], []), ([1], [1]), ([0, 2], [0, 2]), ([3], [3]), ([4], [4]), ([4], [4]), ([5, 6, 4], [4, 5, 6]), ([7, 4], [4, 7]), ([8, 4], [4, 8]), ([4], [4]), ([10, 4], [4, 10]), ([9, 11, 4], [4, 9, 11]), ([4, 12], [4, 12])])
def spec_insertOp.B4 : List Nat := [0, 0, 2, 7, 15, 31, 31, 127, 255, 511, 31, 1055, 4095, 8191]
theorem spec_insertOp.tab4 : rtab .any (opsOf Try.f58 4) = spec_insertOp.T4 := by kernel_rfl
theorem spec_insertOp.bits4 : waitsOk spec_insertOp.T4.2 spec_insertOp.B4 = true := by kernel_rfl
set_option maxHeartbeats 8000000 in
set_option maxRecDepth 100000 in
theorem spec_insertOp.calls (k : Nat) (P0_ : Nat → Prop) (A0 : Option Addr) (c0 : Nat) (l0 : List (S30)) (a1_0 : Int) (a1_1 : Int) (a1_2 : Int) (a1_3 : Int) (a1_4 : Int) (a1_5 : Int) (a1_6 : Int) (a1_7 : Int) (a1_8 : Int) (a1_9 : Int) (a1_10 : Bool) (a1_11 : ByteArray) (r : List (S30)) (w : World) (hs0 : Kd.V k30 30 w w.heap.size (fun k_ => P0_ k_) (.slice A0 l0.length c0) l0) (h : spec_insertOp.f k l0 a1_0 a1_1 a1_2 a1_3 a1_4 a1_5 a1_6 a1_7 a1_8 a1_9 a1_10 a1_11 = some r) :
  Calls Try.prog 58 #[.slice A0 l0.length c0, .agg #[.int .i64 a1_0, .int .i64 a1_1, .int .i64 a1_2, .int .i64 a1_3, .int .i64 a1_4, .int .i64 a1_5, .int .i64 a1_6, .int .i64 a1_7, .int .i64 a1_8, .int .i64 a1_9, .bool a1_10, .string a1_11]] w fun e w' => ∃ v0_ : Value, e = .returned (v0_) ∧ Kd.V k30 30 w' w.heap.size (fun k_ => (P0_ k_ ∨ w.heap.size ≤ k_)) v0_ r ∧ Below w.heap.size w w' := by
 have hu30 := Try.underlying30
 have hu28 := Try.underlying28
 have HO0 := am (show Kd.V k30 30 w w.heap.size (fun k_ => (P0_ k_ ∨ w.heap.size ≤ k_)) (.slice A0 l0.length c0) l0 from Kd.V_mono hs0 (fun k_ hk => .inl hk))
 have HB := am (Below.refl w.heap.size w)
 have H : (spec_insertOp.l0 k l0 0 a1_0 a1_1 a1_2 a1_3 a1_4 a1_5 a1_6 a1_7 a1_8 a1_9 a1_10 a1_11) = some r := h
 clear h
 have H' := am H
 clear H
 go_enter Try.func58, Try.ntmps58
 go_wp2_with (first | ((with_reducible refine gate_dst (N := 3) rfl ?_); refine box_event ?hg (N := 3) ?hd (cs := #[.int .i64 a1_0, .int .i64 a1_1, .int .i64 a1_2, .int .i64 a1_3, .int .i64 a1_4, .int .i64 a1_5, .int .i64 a1_6, .int .i64 a1_7, .int .i64 a1_8, .int .i64 a1_9, .bool a1_10, .string a1_11]) (t := 30) ?hr ?_; (case hd => rfl); (case hg => rfl); (case hr => first | (go_simp; done) | (go_simp; rfl)); intro gb159 hg w3 hbox hb; have n0_ := am (Kd.V_below (Kd.V_elderB (by (with_reducible repeat (first | apply Kd.V_alloc | apply Kd.V_drewN | apply Kd.V_drew)); exact HO0.out) gb159 (Nat.le_of_eq hg.symm)) hb); have n1_ := am (below_step (by repeat (first | (with_reducible first | exact HB.out | apply below_alloc | apply pw_below_drewN | apply below_drew1) | exact HB.out)) hb); have n2_ := am (hbox); have n3_ := am ((by rw [hg]; exact (below_size (by repeat (first | (with_reducible first | exact HB.out | apply below_alloc | apply pw_below_drewN | apply below_drew1) | exact HB.out))) : w.heap.size ≤ gb159)); have n4_ := am ((by rw [hg]; exact (below_size (by repeat (first | (with_reducible first | exact HB.out | apply below_alloc | apply pw_below_drewN | apply below_drew1) | exact HB.out))) : w.heap.size ≤ gb159)); clear HO0; clear HB; have HO0 := n0_; have HB := n1_; have BK159 := n2_; have GW159 := n3_; have GE159 := n4_; clear n0_ n1_ n2_ n3_ n4_; clear hb hbox hg))
 go_loopg [5] k (fun kq v5 w' => ∃ (x5_1 : Int), v5 = .int .i64 x5_1 ∧ Aside0 (spec_insertOp.l0 kq l0 x5_1 a1_0 a1_1 a1_2 a1_3 a1_4 a1_5 a1_6 a1_7 a1_8 a1_9 a1_10 a1_11 = some r) ∧ Aside0 (kq ≤ k) ∧ Aside0 (Kd.V k30 30 w' w.heap.size (fun k_ => (P0_ k_ ∨ w.heap.size ≤ k_) ∧ k_ ≠ gb159) (.slice A0 l0.length c0) l0) ∧ Aside0 (w'.heap[gb159]? = some (.cells #[.int .i64 a1_0, .int .i64 a1_1, .int .i64 a1_2, .int .i64 a1_3, .int .i64 a1_4, .int .i64 a1_5, .int .i64 a1_6, .int .i64 a1_7, .int .i64 a1_8, .int .i64 a1_9, .bool a1_10, .string a1_11] 30 (0, 0))) ∧ Aside0 (Below w.heap.size w w'))
 case atStart => exact ⟨(0), (by first | rfl | (simp; done) | (simp [*]; done)), H', ⟨Nat.le_refl _⟩, ⟨by (with_reducible repeat (first | apply Kd.V_alloc | apply Kd.V_drewN | apply Kd.V_drew)); exact HO0.out⟩, ⟨by (with_reducible repeat (first | refine blk_drewN ?_ _ | refine blk_drew ?_ | refine blk_alloc ?_ _)); exact BK159.out⟩, ⟨by repeat (first | (with_reducible first | exact HB.out | apply below_alloc | apply pw_below_drewN | apply below_drew1 | refine below_set ?_ GE159.out) | exact HB.out)⟩⟩
 case round =>
  clear H'
  try clear p2
  obtain ⟨x5_1, rfl, HA, HK1, HO_0, BK159, HB⟩ := hrel
  cases gk with
  | zero => exact absurd HA.out (by simp [spec_insertOp.l0])
  | succ k1 =>
   have H := HA.out
   clear HA
   simp only [spec_insertOp.l0] at H
   by_cases c4 : x5_1 < (l0.length : Int)
   ·rw [if_pos c4] at H
    have c4b0 : decide (x5_1 < (l0.length : Int)) = true := decide_eq_true c4
    clear c4
    by_cases c5 : 0 ≤ x5_1
    ·rw [if_pos c5] at H
     have c5b0 : decide (0 ≤ x5_1) = true := decide_eq_true c5
     clear c5
     replace H := Option.bind_eq_some_iff.mp H
     obtain ⟨t161, A60, H⟩ := H
     replace H : (if t161 = true then (spec_insertOp.l0 k1 l0 (wrap64 (x5_1 + 1)) a1_0 a1_1 a1_2 a1_3 a1_4 a1_5 a1_6 a1_7 a1_8 a1_9 a1_10 a1_11) else (if (((rd_T30 l0 x5_1).f0.f0) == a1_0 && (((rd_T30 l0 x5_1).f0.f1) == a1_1)) = true then (some l0) else ((some (([] : List (S30)) : List (S30))).bind fun y163 => (if x5_1 ≤ (l0.length : Int) then ((some (l0.take (x5_1 : Int).toNat : List (S30))).bind fun y166 => (if y163.length + y166.length < 1353245080339 then ((some (y163 ++ y166 : List (S30))).bind fun y171 => (if y171.length < 1353245080339 then ((some (y171 ++ [(⟨(⟨a1_0, a1_1⟩ : S28), a1_2, (⟨a1_3, a1_4⟩ : S28), (⟨a1_5, a1_6⟩ : S28), (⟨a1_7, a1_8⟩ : S28), a1_9, a1_10, a1_11⟩ : S30)] : List (S30))).bind fun y174 => ((some (l0.drop (x5_1 : Int).toNat : List (S30))).bind fun y177 => (if y174.length + y177.length < 1353245080339 then (some (y174 ++ y177)) else (none)))) else (none))) else (none))) else (none))))) = some r := H
     have A6 := am A60
     clear A60
     by_cases c7 : t161 = true
     ·subst c7
      have H1 : (spec_insertOp.l0 k1 l0 (wrap64 (x5_1 + 1)) a1_0 a1_1 a1_2 a1_3 a1_4 a1_5 a1_6 a1_7 a1_8 a1_9 a1_10 a1_11) = some r := by rw [if_pos rfl] at H; exact H
      clear H
      have H := H1
      clear H1
      have H' := am H
      clear H
      try go_wp2
      have n0_ := am (Kd.V_drew HO_0.out)
      have n1_ := am (blk_drew BK159.out)
      have n2_ := am (below_drew1 HB.out)
      clear HO_0
      clear BK159
      clear HB
      have HO_0 := n0_
      have BK159 := n1_
      have HB := n2_
      clear n0_ n1_ n2_
      have p160 : 0 ≤ (x5_1 : Int) := of_decide_eq_true (by first | (with_reducible assumption) | assumption)
      have q160 : x5_1 < (l0.length : Int) := of_decide_eq_true (by first | (with_reducible assumption) | assumption)
      obtain ⟨ad160, e160, hx160_0, hx160_1, hx160_2, hx160_3, hx160_4, hx160_5, hx160_6, hx160_7, hx160_8, hx160_9, hx160_10, hx160_11⟩ := at_T30 (Kd.V_reads' HO_0.out).2.2 x5_1 p160 q160
      cases e160
      replace p160 := eq_true p160
      replace q160 := eq_true q160
      refine start_ (n := 14) (S := fun w' => w'.cell? ⟨gb159, 0, none⟩ = some (.int .i64 a1_0) ∧ w'.cell? ⟨gb159, 1, none⟩ = some (.int .i64 a1_1) ∧ w'.cell? ⟨gb159, 2, none⟩ = some (.int .i64 a1_2) ∧ w'.cell? ⟨gb159, 3, none⟩ = some (.int .i64 a1_3) ∧ w'.cell? ⟨gb159, 4, none⟩ = some (.int .i64 a1_4) ∧ w'.cell? ⟨gb159, 5, none⟩ = some (.int .i64 a1_5) ∧ w'.cell? ⟨gb159, 6, none⟩ = some (.int .i64 a1_6) ∧ w'.cell? ⟨gb159, 7, none⟩ = some (.int .i64 a1_7) ∧ w'.cell? ⟨gb159, 8, none⟩ = some (.int .i64 a1_8) ∧ w'.cell? ⟨gb159, 9, none⟩ = some (.int .i64 a1_9) ∧ w'.cell? ⟨gb159, 10, none⟩ = some (.bool a1_10) ∧ w'.cell? ⟨gb159, 11, none⟩ = some (.string a1_11) ∧ w'.cell? (ad160.add ((x5_1).toNat * 12)) = some (.int .i64 ((rd_T30 l0 x5_1).f0.f0)) ∧ w'.cell? ⟨(ad160.add ((x5_1).toNat * 12)).block, (ad160.add ((x5_1).toNat * 12)).off + 1, none⟩ = some (.int .i64 ((rd_T30 l0 x5_1).f0.f1)) ∧ w'.cell? ⟨(ad160.add ((x5_1).toNat * 12)).block, (ad160.add ((x5_1).toNat * 12)).off + 2, none⟩ = some (.int .i64 ((rd_T30 l0 x5_1).f1)) ∧ w'.cell? ⟨(ad160.add ((x5_1).toNat * 12)).block, (ad160.add ((x5_1).toNat * 12)).off + 3, none⟩ = some (.int .i64 ((rd_T30 l0 x5_1).f2.f0)) ∧ w'.cell? ⟨(ad160.add ((x5_1).toNat * 12)).block, (ad160.add ((x5_1).toNat * 12)).off + 4, none⟩ = some (.int .i64 ((rd_T30 l0 x5_1).f2.f1)) ∧ w'.cell? ⟨(ad160.add ((x5_1).toNat * 12)).block, (ad160.add ((x5_1).toNat * 12)).off + 5, none⟩ = some (.int .i64 ((rd_T30 l0 x5_1).f3.f0)) ∧ w'.cell? ⟨(ad160.add ((x5_1).toNat * 12)).block, (ad160.add ((x5_1).toNat * 12)).off + 6, none⟩ = some (.int .i64 ((rd_T30 l0 x5_1).f3.f1)) ∧ w'.cell? ⟨(ad160.add ((x5_1).toNat * 12)).block, (ad160.add ((x5_1).toNat * 12)).off + 7, none⟩ = some (.int .i64 ((rd_T30 l0 x5_1).f4.f0)) ∧ w'.cell? ⟨(ad160.add ((x5_1).toNat * 12)).block, (ad160.add ((x5_1).toNat * 12)).off + 8, none⟩ = some (.int .i64 ((rd_T30 l0 x5_1).f4.f1)) ∧ w'.cell? ⟨(ad160.add ((x5_1).toNat * 12)).block, (ad160.add ((x5_1).toNat * 12)).off + 9, none⟩ = some (.int .i64 ((rd_T30 l0 x5_1).f5)) ∧ w'.cell? ⟨(ad160.add ((x5_1).toNat * 12)).block, (ad160.add ((x5_1).toNat * 12)).off + 10, none⟩ = some (.bool ((rd_T30 l0 x5_1).f6)) ∧ w'.cell? ⟨(ad160.add ((x5_1).toNat * 12)).block, (ad160.add ((x5_1).toNat * 12)).off + 11, none⟩ = some (.string ((rd_T30 l0 x5_1).f7))) (ds := []) qx14_0 (by kernel_rfl) rfl rfl ⟨(blk_cell BK159.out 0).trans rfl, (blk_cell BK159.out 1).trans rfl, (blk_cell BK159.out 2).trans rfl, (blk_cell BK159.out 3).trans rfl, (blk_cell BK159.out 4).trans rfl, (blk_cell BK159.out 5).trans rfl, (blk_cell BK159.out 6).trans rfl, (blk_cell BK159.out 7).trans rfl, (blk_cell BK159.out 8).trans rfl, (blk_cell BK159.out 9).trans rfl, (blk_cell BK159.out 10).trans rfl, (blk_cell BK159.out 11).trans rfl, hx160_0, hx160_1, hx160_2, hx160_3, hx160_4, hx160_5, hx160_6, hx160_7, hx160_8, hx160_9, hx160_10, hx160_11⟩ (fun hHeld => ?_); refine with_tabW spec_insertOp.tab2 spec_insertOp.bits2 (fun HT_ HW_ => ?_)
      generalize wr.drew = w8 at HO_0 BK159 HB hx160_0 hx160_1 hx160_10 hx160_11 hx160_2 hx160_3 hx160_4 hx160_5 hx160_6 hx160_7 hx160_8 hx160_9 hHeld ⊢
      refine pure_ (i := 0) (N := some 7) (v := ?_) (a' := ?_) qx14_1 rfl rfl (any_of HT_.out (by kernel_rfl)) (fun _ _ _ h => h) (Or.inl ⟨by rfl, ?_⟩) ?_ ?_
      rotate_left
      ·intro w'
       go_simp
       with_reducible rfl
      rotate_left
      ·simp only [putS]
       rfl
      refine pure_ (i := 1) (N := some 8) (v := ?_) (a' := ?_) qx14_2 rfl rfl (any_of HT_.out (by kernel_rfl)) (fun _ _ _ h => h) (Or.inl ⟨by rfl, ?_⟩) ?_ ?_
      rotate_left
      ·intro w'
       go_simp
       with_reducible rfl
      rotate_left
      ·simp only [putS]
       rfl
      refine pure_ (i := 2) (N := some 9) (v := ?_) (a' := ?_) qx14_3 rfl rfl (any_of HT_.out (by kernel_rfl)) (fun _ _ _ h => h) (Or.inl ⟨by rfl, ?_⟩) ?_ ?_
      rotate_left
      ·intro w'
       go_simp
       with_reducible rfl
      rotate_left
      ·simp only [putS]
       rfl
      refine pure_ (i := 3) (N := some 10) (v := ?_) (a' := ?_) qx14_4 rfl rfl (any_of HT_.out (by kernel_rfl)) (fun _ _ _ h => h) (Or.inl ⟨by rfl, ?_⟩) ?_ ?_
      rotate_left
      ·intro w'
       go_simp
       with_reducible rfl
      rotate_left
      ·simp only [putS]
       rfl
      refine pure_ (i := 4) (N := some 11) (v := ?_) (a' := ?_) qx14_5 rfl rfl (any_of HT_.out (by kernel_rfl)) (fun _ _ _ h => h) (Or.inl ⟨by rfl, ?_⟩) ?_ ?_
      rotate_left
      ·intro w'
       go_simp
       with_reducible rfl
      rotate_left
      ·simp only [putS]
       rfl
      refine pure_ (i := 5) (N := some 12) (v := ?_) (a' := ?_) qx14_6 rfl rfl (any_of HT_.out (by kernel_rfl)) (fun _ _ _ h => h) (Or.inl ⟨by rfl, ?_⟩) ?_ ?_
      rotate_left
      ·intro w'
       go_simp
       with_reducible rfl
      rotate_left
      ·simp only [putS]
       rfl
      refine pure_ (i := 6) (N := some 13) (v := ?_) (a' := ?_) qx14_7 rfl rfl (any_of HT_.out (by kernel_rfl)) (fun _ _ _ h => h) (Or.inl ⟨by rfl, ?_⟩) ?_ ?_
      rotate_left
      ·intro w'
       go_simp
       with_reducible rfl
      rotate_left
      ·simp only [putS]
       rfl
      refine pure_ (i := 7) (N := some 14) (v := ?_) (a' := ?_) qx14_8 rfl rfl (any_of HT_.out (by kernel_rfl)) (fun _ _ _ h => h) (Or.inl ⟨by rfl, ?_⟩) ?_ ?_
      rotate_left
      ·intro w'
       go_simp
       with_reducible rfl
      rotate_left
      ·simp only [putS]
       rfl
      refine pure_ (i := 8) (N := some 15) (v := ?_) (a' := ?_) qx14_9 rfl rfl (any_of HT_.out (by kernel_rfl)) (fun _ _ _ h => h) (Or.inl ⟨by rfl, ?_⟩) ?_ ?_
      rotate_left
      ·intro w'
       go_simp
       with_reducible rfl
      rotate_left
      ·simp only [putS]
       rfl
      refine pure_ (i := 10) (N := some 17) (v := ?_) (a' := ?_) qx14_14 rfl rfl (any_of HT_.out (by kernel_rfl)) (fun _ _ _ h => h) (Or.inl ⟨by rfl, ?_⟩) ?_ ?_
      rotate_left
      ·intro w'
       go_simp
       with_reducible rfl
      rotate_left
      ·simp only [putS]
       rfl
      refine take_ (i := 9) (N := some 16) (v := ?_) (a' := ?_) qx14_10 rfl rfl (take_ofW HT_.out HW_.out (by kernel_rfl)) (fun _ _ _ h => h) (Or.inl ⟨by rfl, ?_⟩) hHeld ?_ ?_
      rotate_left
      ·rintro w' ⟨s0, s1, s2, s3, s4, s5, s6, s7, s8, s9, s10, s11, s12, s13, s14, s15, s16, s17, s18, s19, s20, s21, s22, s23⟩
       go_simp
       with_reducible rfl
      rotate_left
      ·simp only [putS]
       rfl
      refine take_ (i := 11) (N := some 18) (v := ?_) (a' := ?_) qx14_11 rfl rfl (take_ofW HT_.out HW_.out (by kernel_rfl)) (fun _ _ _ h => h) (Or.inl ⟨by rfl, ?_⟩) hHeld ?_ ?_
      rotate_left
      ·rintro w' ⟨s0, s1, s2, s3, s4, s5, s6, s7, s8, s9, s10, s11, s12, s13, s14, s15, s16, s17, s18, s19, s20, s21, s22, s23⟩
       go_simp
       with_reducible rfl
      rotate_left
      ·simp only [putS]
       rfl
      refine one_ (i := 12) (N := some 19) qx14_12 rfl rfl (one_of HT_.out (by kernel_rfl)) (by decide) (fun K hK => ?_)
      refine goes_ Try.func67 (by kernel_rfl) rfl #[.agg #[.int .i64 ((rd_T30 l0 x5_1).f0.f0), .int .i64 ((rd_T30 l0 x5_1).f0.f1)], .agg #[.int .i64 a1_0, .int .i64 a1_1]] (by rfl) rfl rfl (by (try simp only [List.map_toArray, List.map_cons, List.map_nil]); first | done | rfl | (simp only [List.length_drop, List.length_take]; rfl)) ?_
      with_reducible refine (spec_stampLess.calls ((rd_T30 l0 x5_1).f0.f0) ((rd_T30 l0 x5_1).f0.f1) a1_0 a1_1 true _ A6.out).mono ?_
      rintro e w9 ⟨rfl, hb⟩
      have HS12_ := (hb.cell (World.block_lt_of_cell? _ _ (hHeld.2.2.2.2.2.2.2.2.2.2.2.2.1))).trans (hHeld.2.2.2.2.2.2.2.2.2.2.2.2.1)
      have HS13_ := (hb.cell (World.block_lt_of_cell? _ _ (hHeld.2.2.2.2.2.2.2.2.2.2.2.2.2.1))).trans (hHeld.2.2.2.2.2.2.2.2.2.2.2.2.2.1)
      have HS14_ := (hb.cell (World.block_lt_of_cell? _ _ (hHeld.2.2.2.2.2.2.2.2.2.2.2.2.2.2.1))).trans (hHeld.2.2.2.2.2.2.2.2.2.2.2.2.2.2.1)
      have HS15_ := (hb.cell (World.block_lt_of_cell? _ _ (hHeld.2.2.2.2.2.2.2.2.2.2.2.2.2.2.2.1))).trans (hHeld.2.2.2.2.2.2.2.2.2.2.2.2.2.2.2.1)
      have HS16_ := (hb.cell (World.block_lt_of_cell? _ _ (hHeld.2.2.2.2.2.2.2.2.2.2.2.2.2.2.2.2.1))).trans (hHeld.2.2.2.2.2.2.2.2.2.2.2.2.2.2.2.2.1)
      have HS17_ := (hb.cell (World.block_lt_of_cell? _ _ (hHeld.2.2.2.2.2.2.2.2.2.2.2.2.2.2.2.2.2.1))).trans (hHeld.2.2.2.2.2.2.2.2.2.2.2.2.2.2.2.2.2.1)
      have HS18_ := (hb.cell (World.block_lt_of_cell? _ _ (hHeld.2.2.2.2.2.2.2.2.2.2.2.2.2.2.2.2.2.2.1))).trans (hHeld.2.2.2.2.2.2.2.2.2.2.2.2.2.2.2.2.2.2.1)
      have HS19_ := (hb.cell (World.block_lt_of_cell? _ _ (hHeld.2.2.2.2.2.2.2.2.2.2.2.2.2.2.2.2.2.2.2.1))).trans (hHeld.2.2.2.2.2.2.2.2.2.2.2.2.2.2.2.2.2.2.2.1)
      have HS20_ := (hb.cell (World.block_lt_of_cell? _ _ (hHeld.2.2.2.2.2.2.2.2.2.2.2.2.2.2.2.2.2.2.2.2.1))).trans (hHeld.2.2.2.2.2.2.2.2.2.2.2.2.2.2.2.2.2.2.2.2.1)
      have HS21_ := (hb.cell (World.block_lt_of_cell? _ _ (hHeld.2.2.2.2.2.2.2.2.2.2.2.2.2.2.2.2.2.2.2.2.2.1))).trans (hHeld.2.2.2.2.2.2.2.2.2.2.2.2.2.2.2.2.2.2.2.2.2.1)
      have HS22_ := (hb.cell (World.block_lt_of_cell? _ _ (hHeld.2.2.2.2.2.2.2.2.2.2.2.2.2.2.2.2.2.2.2.2.2.2.1))).trans (hHeld.2.2.2.2.2.2.2.2.2.2.2.2.2.2.2.2.2.2.2.2.2.2.1)
      have HS23_ := (hb.cell (World.block_lt_of_cell? _ _ (hHeld.2.2.2.2.2.2.2.2.2.2.2.2.2.2.2.2.2.2.2.2.2.2.2))).trans (hHeld.2.2.2.2.2.2.2.2.2.2.2.2.2.2.2.2.2.2.2.2.2.2.2)
      refine ⟨_, rfl, ?_⟩
      have n0_ := am (Kd.V_below (by (with_reducible repeat (first | apply Kd.V_alloc | apply Kd.V_drewN | apply Kd.V_drew)); exact HO_0.out) hb)
      have n1_ := am (blk_below (g := gb159) (o := .cells #[.int .i64 a1_0, .int .i64 a1_1, .int .i64 a1_2, .int .i64 a1_3, .int .i64 a1_4, .int .i64 a1_5, .int .i64 a1_6, .int .i64 a1_7, .int .i64 a1_8, .int .i64 a1_9, .bool a1_10, .string a1_11] 30 (0, 0)) (by (with_reducible repeat (first | refine blk_drewN ?_ _ | refine blk_drew ?_ | refine blk_alloc ?_ _)); exact BK159.out) hb)
      have n2_ := am (below_step (by repeat (first | (with_reducible first | exact HB.out | apply below_alloc | apply pw_below_drewN | apply below_drew1 | refine below_set ?_ GE159.out) | exact HB.out)) hb)
      clear HO_0
      clear BK159
      clear HB
      have HO_0 := n0_
      have BK159 := n1_
      have HB := n2_
      clear n0_ n1_ n2_
      (try clear hb)
      (try clear hb2)
      (try clear hk)
      (try clear hi)
      refine hK.out _ _ ⟨(blk_cell BK159.out 0).trans rfl, (blk_cell BK159.out 1).trans rfl, (blk_cell BK159.out 2).trans rfl, (blk_cell BK159.out 3).trans rfl, (blk_cell BK159.out 4).trans rfl, (blk_cell BK159.out 5).trans rfl, (blk_cell BK159.out 6).trans rfl, (blk_cell BK159.out 7).trans rfl, (blk_cell BK159.out 8).trans rfl, (blk_cell BK159.out 9).trans rfl, (blk_cell BK159.out 10).trans rfl, (blk_cell BK159.out 11).trans rfl, HS12_, HS13_, HS14_, HS15_, HS16_, HS17_, HS18_, HS19_, HS20_, HS21_, HS22_, HS23_⟩ (fun hHeld => ?_)
      clear hK K
      refine norm_ (a' := ?_) ?_ ?_
      rotate_left
      ·show Act.put _ (some 19) _ = _
       simp only [putS]
       rfl
      refine pure_ (i := 13) (N := some 20) (v := ?_) (a' := ?_) qx14_13 rfl rfl (any_of HT_.out (by kernel_rfl)) (fun _ _ _ h => h) (Or.inl ⟨by rfl, ?_⟩) ?_ ?_
      rotate_left
      ·intro w'
       go_simp
       with_reducible rfl
      rotate_left
      ·simp only [putS]
       rfl
      refine done_ (done_of HT_.out (by kernel_rfl)) ?_
      try go_wp2
      go_roundg k1
      case measure => have := HK1.out; omega
      case rel => exact ⟨(wrap64 (x5_1 + 1)), (by first | rfl | (simp; done) | (simp [*]; done)), H', ⟨by have := HK1.out; omega⟩, ⟨by (with_reducible repeat (first | apply Kd.V_alloc | apply Kd.V_drewN | apply Kd.V_drew)); exact HO_0.out⟩, ⟨by (with_reducible repeat (first | refine blk_drewN ?_ _ | refine blk_drew ?_ | refine blk_alloc ?_ _)); exact BK159.out⟩, ⟨by repeat (first | (with_reducible first | exact HB.out | apply below_alloc | apply pw_below_drewN | apply below_drew1 | refine below_set ?_ GE159.out) | exact HB.out)⟩⟩
     ·replace c7 := Bool.eq_false_iff.mpr c7
      subst c7
      have H1 : (if (((rd_T30 l0 x5_1).f0.f0) == a1_0 && (((rd_T30 l0 x5_1).f0.f1) == a1_1)) = true then (some l0) else ((some (([] : List (S30)) : List (S30))).bind fun y163 => (if x5_1 ≤ (l0.length : Int) then ((some (l0.take (x5_1 : Int).toNat : List (S30))).bind fun y166 => (if y163.length + y166.length < 1353245080339 then ((some (y163 ++ y166 : List (S30))).bind fun y171 => (if y171.length < 1353245080339 then ((some (y171 ++ [(⟨(⟨a1_0, a1_1⟩ : S28), a1_2, (⟨a1_3, a1_4⟩ : S28), (⟨a1_5, a1_6⟩ : S28), (⟨a1_7, a1_8⟩ : S28), a1_9, a1_10, a1_11⟩ : S30)] : List (S30))).bind fun y174 => ((some (l0.drop (x5_1 : Int).toNat : List (S30))).bind fun y177 => (if y174.length + y177.length < 1353245080339 then (some (y174 ++ y177)) else (none)))) else (none))) else (none))) else (none)))) = some r := by rw [if_neg (show ¬ (false = true) by decide)] at H; exact H
      clear H
      have H := H1
      clear H1
      by_cases c10 : (((rd_T30 l0 x5_1).f0.f0) == a1_0 && (((rd_T30 l0 x5_1).f0.f1) == a1_1)) = true
      ·rw [if_pos c10] at H
       have c10b0 : (((rd_T30 l0 x5_1).f0.f0) == a1_0 && (((rd_T30 l0 x5_1).f0.f1) == a1_1)) = true := c10
       (try (have c10b1 : decide (((rd_T30 l0 x5_1).f0.f0) = a1_0 && (((rd_T30 l0 x5_1).f0.f1) == a1_1)) = true := by simpa using c10))
       (try (have c10b2 : (((rd_T30 l0 x5_1).f0.f0) == a1_0 && (((rd_T30 l0 x5_1).f0.f1) == a1_1)) = true := by simpa using c10))
       clear c10
       obtain rfl := Option.some.inj H
       try go_wp2
       have n0_ := am (Kd.V_drew HO_0.out)
       have n1_ := am (blk_drew BK159.out)
       have n2_ := am (below_drew1 HB.out)
       clear HO_0
       clear BK159
       clear HB
       have HO_0 := n0_
       have BK159 := n1_
       have HB := n2_
       clear n0_ n1_ n2_
       have p160 : 0 ≤ (x5_1 : Int) := of_decide_eq_true (by first | (with_reducible assumption) | assumption)
       have q160 : x5_1 < (l0.length : Int) := of_decide_eq_true (by first | (with_reducible assumption) | assumption)
       obtain ⟨ad160, e160, hx160_0, hx160_1, hx160_2, hx160_3, hx160_4, hx160_5, hx160_6, hx160_7, hx160_8, hx160_9, hx160_10, hx160_11⟩ := at_T30 (Kd.V_reads' HO_0.out).2.2 x5_1 p160 q160
       cases e160
       replace p160 := eq_true p160
       replace q160 := eq_true q160
       refine start_ (n := 14) (S := fun w' => w'.cell? ⟨gb159, 0, none⟩ = some (.int .i64 a1_0) ∧ w'.cell? ⟨gb159, 1, none⟩ = some (.int .i64 a1_1) ∧ w'.cell? ⟨gb159, 2, none⟩ = some (.int .i64 a1_2) ∧ w'.cell? ⟨gb159, 3, none⟩ = some (.int .i64 a1_3) ∧ w'.cell? ⟨gb159, 4, none⟩ = some (.int .i64 a1_4) ∧ w'.cell? ⟨gb159, 5, none⟩ = some (.int .i64 a1_5) ∧ w'.cell? ⟨gb159, 6, none⟩ = some (.int .i64 a1_6) ∧ w'.cell? ⟨gb159, 7, none⟩ = some (.int .i64 a1_7) ∧ w'.cell? ⟨gb159, 8, none⟩ = some (.int .i64 a1_8) ∧ w'.cell? ⟨gb159, 9, none⟩ = some (.int .i64 a1_9) ∧ w'.cell? ⟨gb159, 10, none⟩ = some (.bool a1_10) ∧ w'.cell? ⟨gb159, 11, none⟩ = some (.string a1_11) ∧ w'.cell? (ad160.add ((x5_1).toNat * 12)) = some (.int .i64 ((rd_T30 l0 x5_1).f0.f0)) ∧ w'.cell? ⟨(ad160.add ((x5_1).toNat * 12)).block, (ad160.add ((x5_1).toNat * 12)).off + 1, none⟩ = some (.int .i64 ((rd_T30 l0 x5_1).f0.f1)) ∧ w'.cell? ⟨(ad160.add ((x5_1).toNat * 12)).block, (ad160.add ((x5_1).toNat * 12)).off + 2, none⟩ = some (.int .i64 ((rd_T30 l0 x5_1).f1)) ∧ w'.cell? ⟨(ad160.add ((x5_1).toNat * 12)).block, (ad160.add ((x5_1).toNat * 12)).off + 3, none⟩ = some (.int .i64 ((rd_T30 l0 x5_1).f2.f0)) ∧ w'.cell? ⟨(ad160.add ((x5_1).toNat * 12)).block, (ad160.add ((x5_1).toNat * 12)).off + 4, none⟩ = some (.int .i64 ((rd_T30 l0 x5_1).f2.f1)) ∧ w'.cell? ⟨(ad160.add ((x5_1).toNat * 12)).block, (ad160.add ((x5_1).toNat * 12)).off + 5, none⟩ = some (.int .i64 ((rd_T30 l0 x5_1).f3.f0)) ∧ w'.cell? ⟨(ad160.add ((x5_1).toNat * 12)).block, (ad160.add ((x5_1).toNat * 12)).off + 6, none⟩ = some (.int .i64 ((rd_T30 l0 x5_1).f3.f1)) ∧ w'.cell? ⟨(ad160.add ((x5_1).toNat * 12)).block, (ad160.add ((x5_1).toNat * 12)).off + 7, none⟩ = some (.int .i64 ((rd_T30 l0 x5_1).f4.f0)) ∧ w'.cell? ⟨(ad160.add ((x5_1).toNat * 12)).block, (ad160.add ((x5_1).toNat * 12)).off + 8, none⟩ = some (.int .i64 ((rd_T30 l0 x5_1).f4.f1)) ∧ w'.cell? ⟨(ad160.add ((x5_1).toNat * 12)).block, (ad160.add ((x5_1).toNat * 12)).off + 9, none⟩ = some (.int .i64 ((rd_T30 l0 x5_1).f5)) ∧ w'.cell? ⟨(ad160.add ((x5_1).toNat * 12)).block, (ad160.add ((x5_1).toNat * 12)).off + 10, none⟩ = some (.bool ((rd_T30 l0 x5_1).f6)) ∧ w'.cell? ⟨(ad160.add ((x5_1).toNat * 12)).block, (ad160.add ((x5_1).toNat * 12)).off + 11, none⟩ = some (.string ((rd_T30 l0 x5_1).f7))) (ds := []) qx14_0 (by kernel_rfl) rfl rfl ⟨(blk_cell BK159.out 0).trans rfl, (blk_cell BK159.out 1).trans rfl, (blk_cell BK159.out 2).trans rfl, (blk_cell BK159.out 3).trans rfl, (blk_cell BK159.out 4).trans rfl, (blk_cell BK159.out 5).trans rfl, (blk_cell BK159.out 6).trans rfl, (blk_cell BK159.out 7).trans rfl, (blk_cell BK159.out 8).trans rfl, (blk_cell BK159.out 9).trans rfl, (blk_cell BK159.out 10).trans rfl, (blk_cell BK159.out 11).trans rfl, hx160_0, hx160_1, hx160_2, hx160_3, hx160_4, hx160_5, hx160_6, hx160_7, hx160_8, hx160_9, hx160_10, hx160_11⟩ (fun hHeld => ?_); refine with_tabW spec_insertOp.tab2 spec_insertOp.bits2 (fun HT_ HW_ => ?_)
       generalize wr.drew = w11 at HO_0 BK159 HB hx160_0 hx160_1 hx160_10 hx160_11 hx160_2 hx160_3 hx160_4 hx160_5 hx160_6 hx160_7 hx160_8 hx160_9 hHeld ⊢
       refine pure_ (i := 0) (N := some 7) (v := ?_) (a' := ?_) qx14_1 rfl rfl (any_of HT_.out (by kernel_rfl)) (fun _ _ _ h => h) (Or.inl ⟨by rfl, ?_⟩) ?_ ?_
       rotate_left
       ·intro w'
        go_simp
        with_reducible rfl
       rotate_left
       ·simp only [putS]
        rfl
       refine pure_ (i := 1) (N := some 8) (v := ?_) (a' := ?_) qx14_2 rfl rfl (any_of HT_.out (by kernel_rfl)) (fun _ _ _ h => h) (Or.inl ⟨by rfl, ?_⟩) ?_ ?_
       rotate_left
       ·intro w'
        go_simp
        with_reducible rfl
       rotate_left
       ·simp only [putS]
        rfl
       refine pure_ (i := 2) (N := some 9) (v := ?_) (a' := ?_) qx14_3 rfl rfl (any_of HT_.out (by kernel_rfl)) (fun _ _ _ h => h) (Or.inl ⟨by rfl, ?_⟩) ?_ ?_
       rotate_left
       ·intro w'
        go_simp
        with_reducible rfl
       rotate_left
       ·simp only [putS]
        rfl
       refine pure_ (i := 3) (N := some 10) (v := ?_) (a' := ?_) qx14_4 rfl rfl (any_of HT_.out (by kernel_rfl)) (fun _ _ _ h => h) (Or.inl ⟨by rfl, ?_⟩) ?_ ?_
       rotate_left
       ·intro w'
        go_simp
        with_reducible rfl
       rotate_left
       ·simp only [putS]
        rfl
       refine pure_ (i := 4) (N := some 11) (v := ?_) (a' := ?_) qx14_5 rfl rfl (any_of HT_.out (by kernel_rfl)) (fun _ _ _ h => h) (Or.inl ⟨by rfl, ?_⟩) ?_ ?_
       rotate_left
       ·intro w'
        go_simp
        with_reducible rfl
       rotate_left
       ·simp only [putS]
        rfl
       refine pure_ (i := 5) (N := some 12) (v := ?_) (a' := ?_) qx14_6 rfl rfl (any_of HT_.out (by kernel_rfl)) (fun _ _ _ h => h) (Or.inl ⟨by rfl, ?_⟩) ?_ ?_
       rotate_left
       ·intro w'
        go_simp
        with_reducible rfl
       rotate_left
       ·simp only [putS]
        rfl
       refine pure_ (i := 6) (N := some 13) (v := ?_) (a' := ?_) qx14_7 rfl rfl (any_of HT_.out (by kernel_rfl)) (fun _ _ _ h => h) (Or.inl ⟨by rfl, ?_⟩) ?_ ?_
       rotate_left
       ·intro w'
        go_simp
        with_reducible rfl
       rotate_left
       ·simp only [putS]
        rfl
       refine pure_ (i := 7) (N := some 14) (v := ?_) (a' := ?_) qx14_8 rfl rfl (any_of HT_.out (by kernel_rfl)) (fun _ _ _ h => h) (Or.inl ⟨by rfl, ?_⟩) ?_ ?_
       rotate_left
       ·intro w'
        go_simp
        with_reducible rfl
       rotate_left
       ·simp only [putS]
        rfl
       refine pure_ (i := 8) (N := some 15) (v := ?_) (a' := ?_) qx14_9 rfl rfl (any_of HT_.out (by kernel_rfl)) (fun _ _ _ h => h) (Or.inl ⟨by rfl, ?_⟩) ?_ ?_
       rotate_left
       ·intro w'
        go_simp
        with_reducible rfl
       rotate_left
       ·simp only [putS]
        rfl
       refine pure_ (i := 10) (N := some 17) (v := ?_) (a' := ?_) qx14_14 rfl rfl (any_of HT_.out (by kernel_rfl)) (fun _ _ _ h => h) (Or.inl ⟨by rfl, ?_⟩) ?_ ?_
       rotate_left
       ·intro w'
        go_simp
        with_reducible rfl
       rotate_left
       ·simp only [putS]
        rfl
       refine take_ (i := 9) (N := some 16) (v := ?_) (a' := ?_) qx14_10 rfl rfl (take_ofW HT_.out HW_.out (by kernel_rfl)) (fun _ _ _ h => h) (Or.inl ⟨by rfl, ?_⟩) hHeld ?_ ?_
       rotate_left
       ·rintro w' ⟨s0, s1, s2, s3, s4, s5, s6, s7, s8, s9, s10, s11, s12, s13, s14, s15, s16, s17, s18, s19, s20, s21, s22, s23⟩
        go_simp
        with_reducible rfl
       rotate_left
       ·simp only [putS]
        rfl
       refine take_ (i := 11) (N := some 18) (v := ?_) (a' := ?_) qx14_11 rfl rfl (take_ofW HT_.out HW_.out (by kernel_rfl)) (fun _ _ _ h => h) (Or.inl ⟨by rfl, ?_⟩) hHeld ?_ ?_
       rotate_left
       ·rintro w' ⟨s0, s1, s2, s3, s4, s5, s6, s7, s8, s9, s10, s11, s12, s13, s14, s15, s16, s17, s18, s19, s20, s21, s22, s23⟩
        go_simp
        with_reducible rfl
       rotate_left
       ·simp only [putS]
        rfl
       refine one_ (i := 12) (N := some 19) qx14_12 rfl rfl (one_of HT_.out (by kernel_rfl)) (by decide) (fun K hK => ?_)
       refine goes_ Try.func67 (by kernel_rfl) rfl #[.agg #[.int .i64 ((rd_T30 l0 x5_1).f0.f0), .int .i64 ((rd_T30 l0 x5_1).f0.f1)], .agg #[.int .i64 a1_0, .int .i64 a1_1]] (by rfl) rfl rfl (by (try simp only [List.map_toArray, List.map_cons, List.map_nil]); first | done | rfl | (simp only [List.length_drop, List.length_take]; rfl)) ?_
       with_reducible refine (spec_stampLess.calls ((rd_T30 l0 x5_1).f0.f0) ((rd_T30 l0 x5_1).f0.f1) a1_0 a1_1 false _ A6.out).mono ?_
       rintro e w12 ⟨rfl, hb⟩
       have HS12_ := (hb.cell (World.block_lt_of_cell? _ _ (hHeld.2.2.2.2.2.2.2.2.2.2.2.2.1))).trans (hHeld.2.2.2.2.2.2.2.2.2.2.2.2.1)
       have HS13_ := (hb.cell (World.block_lt_of_cell? _ _ (hHeld.2.2.2.2.2.2.2.2.2.2.2.2.2.1))).trans (hHeld.2.2.2.2.2.2.2.2.2.2.2.2.2.1)
       have HS14_ := (hb.cell (World.block_lt_of_cell? _ _ (hHeld.2.2.2.2.2.2.2.2.2.2.2.2.2.2.1))).trans (hHeld.2.2.2.2.2.2.2.2.2.2.2.2.2.2.1)
       have HS15_ := (hb.cell (World.block_lt_of_cell? _ _ (hHeld.2.2.2.2.2.2.2.2.2.2.2.2.2.2.2.1))).trans (hHeld.2.2.2.2.2.2.2.2.2.2.2.2.2.2.2.1)
       have HS16_ := (hb.cell (World.block_lt_of_cell? _ _ (hHeld.2.2.2.2.2.2.2.2.2.2.2.2.2.2.2.2.1))).trans (hHeld.2.2.2.2.2.2.2.2.2.2.2.2.2.2.2.2.1)
       have HS17_ := (hb.cell (World.block_lt_of_cell? _ _ (hHeld.2.2.2.2.2.2.2.2.2.2.2.2.2.2.2.2.2.1))).trans (hHeld.2.2.2.2.2.2.2.2.2.2.2.2.2.2.2.2.2.1)
       have HS18_ := (hb.cell (World.block_lt_of_cell? _ _ (hHeld.2.2.2.2.2.2.2.2.2.2.2.2.2.2.2.2.2.2.1))).trans (hHeld.2.2.2.2.2.2.2.2.2.2.2.2.2.2.2.2.2.2.1)
       have HS19_ := (hb.cell (World.block_lt_of_cell? _ _ (hHeld.2.2.2.2.2.2.2.2.2.2.2.2.2.2.2.2.2.2.2.1))).trans (hHeld.2.2.2.2.2.2.2.2.2.2.2.2.2.2.2.2.2.2.2.1)
       have HS20_ := (hb.cell (World.block_lt_of_cell? _ _ (hHeld.2.2.2.2.2.2.2.2.2.2.2.2.2.2.2.2.2.2.2.2.1))).trans (hHeld.2.2.2.2.2.2.2.2.2.2.2.2.2.2.2.2.2.2.2.2.1)
       have HS21_ := (hb.cell (World.block_lt_of_cell? _ _ (hHeld.2.2.2.2.2.2.2.2.2.2.2.2.2.2.2.2.2.2.2.2.2.1))).trans (hHeld.2.2.2.2.2.2.2.2.2.2.2.2.2.2.2.2.2.2.2.2.2.1)
       have HS22_ := (hb.cell (World.block_lt_of_cell? _ _ (hHeld.2.2.2.2.2.2.2.2.2.2.2.2.2.2.2.2.2.2.2.2.2.2.1))).trans (hHeld.2.2.2.2.2.2.2.2.2.2.2.2.2.2.2.2.2.2.2.2.2.2.1)
       have HS23_ := (hb.cell (World.block_lt_of_cell? _ _ (hHeld.2.2.2.2.2.2.2.2.2.2.2.2.2.2.2.2.2.2.2.2.2.2.2))).trans (hHeld.2.2.2.2.2.2.2.2.2.2.2.2.2.2.2.2.2.2.2.2.2.2.2)
       refine ⟨_, rfl, ?_⟩
       have n0_ := am (Kd.V_below (by (with_reducible repeat (first | apply Kd.V_alloc | apply Kd.V_drewN | apply Kd.V_drew)); exact HO_0.out) hb)
       have n1_ := am (blk_below (g := gb159) (o := .cells #[.int .i64 a1_0, .int .i64 a1_1, .int .i64 a1_2, .int .i64 a1_3, .int .i64 a1_4, .int .i64 a1_5, .int .i64 a1_6, .int .i64 a1_7, .int .i64 a1_8, .int .i64 a1_9, .bool a1_10, .string a1_11] 30 (0, 0)) (by (with_reducible repeat (first | refine blk_drewN ?_ _ | refine blk_drew ?_ | refine blk_alloc ?_ _)); exact BK159.out) hb)
       have n2_ := am (below_step (by repeat (first | (with_reducible first | exact HB.out | apply below_alloc | apply pw_below_drewN | apply below_drew1 | refine below_set ?_ GE159.out) | exact HB.out)) hb)
       clear HO_0
       clear BK159
       clear HB
       have HO_0 := n0_
       have BK159 := n1_
       have HB := n2_
       clear n0_ n1_ n2_
       (try clear hb)
       (try clear hb2)
       (try clear hk)
       (try clear hi)
       refine hK.out _ _ ⟨(blk_cell BK159.out 0).trans rfl, (blk_cell BK159.out 1).trans rfl, (blk_cell BK159.out 2).trans rfl, (blk_cell BK159.out 3).trans rfl, (blk_cell BK159.out 4).trans rfl, (blk_cell BK159.out 5).trans rfl, (blk_cell BK159.out 6).trans rfl, (blk_cell BK159.out 7).trans rfl, (blk_cell BK159.out 8).trans rfl, (blk_cell BK159.out 9).trans rfl, (blk_cell BK159.out 10).trans rfl, (blk_cell BK159.out 11).trans rfl, HS12_, HS13_, HS14_, HS15_, HS16_, HS17_, HS18_, HS19_, HS20_, HS21_, HS22_, HS23_⟩ (fun hHeld => ?_)
       clear hK K
       refine norm_ (a' := ?_) ?_ ?_
       rotate_left
       ·show Act.put _ (some 19) _ = _
        simp only [putS]
        rfl
       refine pure_ (i := 13) (N := some 20) (v := ?_) (a' := ?_) qx14_13 rfl rfl (any_of HT_.out (by kernel_rfl)) (fun _ _ _ h => h) (Or.inl ⟨by rfl, ?_⟩) ?_ ?_
       rotate_left
       ·intro w'
        go_simp
        with_reducible rfl
       rotate_left
       ·simp only [putS]
        rfl
       refine done_ (done_of HT_.out (by kernel_rfl)) ?_
       try go_wp2
       have n0_ := am (Kd.V_drew HO_0.out)
       have n1_ := am (blk_drew BK159.out)
       have n2_ := am (below_drew1 HB.out)
       clear HO_0
       clear BK159
       clear HB
       have HO_0 := n0_
       have BK159 := n1_
       have HB := n2_
       clear n0_ n1_ n2_
       have p162 : 0 ≤ (x5_1 : Int) := of_decide_eq_true (by first | (with_reducible assumption) | assumption)
       have q162 : x5_1 < (l0.length : Int) := of_decide_eq_true (by first | (with_reducible assumption) | assumption)
       obtain ⟨ad162, e162, hx162_0, hx162_1, hx162_2, hx162_3, hx162_4, hx162_5, hx162_6, hx162_7, hx162_8, hx162_9, hx162_10, hx162_11⟩ := at_T30 (Kd.V_reads' HO_0.out).2.2 x5_1 p162 q162
       obtain rfl : ad160 = ad162 := (by injection e162)
       replace p162 := eq_true p162
       replace q162 := eq_true q162
       refine start_ (n := 14) (S := fun w' => w'.cell? ⟨gb159, 0, none⟩ = some (.int .i64 a1_0) ∧ w'.cell? ⟨gb159, 1, none⟩ = some (.int .i64 a1_1) ∧ w'.cell? ⟨gb159, 2, none⟩ = some (.int .i64 a1_2) ∧ w'.cell? ⟨gb159, 3, none⟩ = some (.int .i64 a1_3) ∧ w'.cell? ⟨gb159, 4, none⟩ = some (.int .i64 a1_4) ∧ w'.cell? ⟨gb159, 5, none⟩ = some (.int .i64 a1_5) ∧ w'.cell? ⟨gb159, 6, none⟩ = some (.int .i64 a1_6) ∧ w'.cell? ⟨gb159, 7, none⟩ = some (.int .i64 a1_7) ∧ w'.cell? ⟨gb159, 8, none⟩ = some (.int .i64 a1_8) ∧ w'.cell? ⟨gb159, 9, none⟩ = some (.int .i64 a1_9) ∧ w'.cell? ⟨gb159, 10, none⟩ = some (.bool a1_10) ∧ w'.cell? ⟨gb159, 11, none⟩ = some (.string a1_11) ∧ w'.cell? (ad160.add ((x5_1).toNat * 12)) = some (.int .i64 ((rd_T30 l0 x5_1).f0.f0)) ∧ w'.cell? ⟨(ad160.add ((x5_1).toNat * 12)).block, (ad160.add ((x5_1).toNat * 12)).off + 1, none⟩ = some (.int .i64 ((rd_T30 l0 x5_1).f0.f1)) ∧ w'.cell? ⟨(ad160.add ((x5_1).toNat * 12)).block, (ad160.add ((x5_1).toNat * 12)).off + 2, none⟩ = some (.int .i64 ((rd_T30 l0 x5_1).f1)) ∧ w'.cell? ⟨(ad160.add ((x5_1).toNat * 12)).block, (ad160.add ((x5_1).toNat * 12)).off + 3, none⟩ = some (.int .i64 ((rd_T30 l0 x5_1).f2.f0)) ∧ w'.cell? ⟨(ad160.add ((x5_1).toNat * 12)).block, (ad160.add ((x5_1).toNat * 12)).off + 4, none⟩ = some (.int .i64 ((rd_T30 l0 x5_1).f2.f1)) ∧ w'.cell? ⟨(ad160.add ((x5_1).toNat * 12)).block, (ad160.add ((x5_1).toNat * 12)).off + 5, none⟩ = some (.int .i64 ((rd_T30 l0 x5_1).f3.f0)) ∧ w'.cell? ⟨(ad160.add ((x5_1).toNat * 12)).block, (ad160.add ((x5_1).toNat * 12)).off + 6, none⟩ = some (.int .i64 ((rd_T30 l0 x5_1).f3.f1)) ∧ w'.cell? ⟨(ad160.add ((x5_1).toNat * 12)).block, (ad160.add ((x5_1).toNat * 12)).off + 7, none⟩ = some (.int .i64 ((rd_T30 l0 x5_1).f4.f0)) ∧ w'.cell? ⟨(ad160.add ((x5_1).toNat * 12)).block, (ad160.add ((x5_1).toNat * 12)).off + 8, none⟩ = some (.int .i64 ((rd_T30 l0 x5_1).f4.f1)) ∧ w'.cell? ⟨(ad160.add ((x5_1).toNat * 12)).block, (ad160.add ((x5_1).toNat * 12)).off + 9, none⟩ = some (.int .i64 ((rd_T30 l0 x5_1).f5)) ∧ w'.cell? ⟨(ad160.add ((x5_1).toNat * 12)).block, (ad160.add ((x5_1).toNat * 12)).off + 10, none⟩ = some (.bool ((rd_T30 l0 x5_1).f6)) ∧ w'.cell? ⟨(ad160.add ((x5_1).toNat * 12)).block, (ad160.add ((x5_1).toNat * 12)).off + 11, none⟩ = some (.string ((rd_T30 l0 x5_1).f7))) (ds := []) qx14_0 (by kernel_rfl) rfl rfl ⟨(blk_cell BK159.out 0).trans rfl, (blk_cell BK159.out 1).trans rfl, (blk_cell BK159.out 2).trans rfl, (blk_cell BK159.out 3).trans rfl, (blk_cell BK159.out 4).trans rfl, (blk_cell BK159.out 5).trans rfl, (blk_cell BK159.out 6).trans rfl, (blk_cell BK159.out 7).trans rfl, (blk_cell BK159.out 8).trans rfl, (blk_cell BK159.out 9).trans rfl, (blk_cell BK159.out 10).trans rfl, (blk_cell BK159.out 11).trans rfl, hx162_0, hx162_1, hx162_2, hx162_3, hx162_4, hx162_5, hx162_6, hx162_7, hx162_8, hx162_9, hx162_10, hx162_11⟩ (fun hHeld => ?_); refine with_tabW spec_insertOp.tab4 spec_insertOp.bits4 (fun HT_ HW_ => ?_)
       generalize w12.drew = w13 at HO_0 BK159 HB hx162_0 hx162_1 hx162_10 hx162_11 hx162_2 hx162_3 hx162_4 hx162_5 hx162_6 hx162_7 hx162_8 hx162_9 hHeld ⊢
       refine pure_ (i := 0) (N := some 23) (v := ?_) (a' := ?_) qx14_1 rfl rfl (any_of HT_.out (by kernel_rfl)) (fun _ _ _ h => h) (Or.inl ⟨by rfl, ?_⟩) ?_ ?_
       rotate_left
       ·intro w'
        go_simp
        with_reducible rfl
       rotate_left
       ·simp only [putS]
        rfl
       refine pure_ (i := 1) (N := some 24) (v := ?_) (a' := ?_) qx14_2 rfl rfl (any_of HT_.out (by kernel_rfl)) (fun _ _ _ h => h) (Or.inl ⟨by rfl, ?_⟩) ?_ ?_
       rotate_left
       ·intro w'
        go_simp
        with_reducible rfl
       rotate_left
       ·simp only [putS]
        rfl
       refine pure_ (i := 2) (N := some 25) (v := ?_) (a' := ?_) qx14_3 rfl rfl (any_of HT_.out (by kernel_rfl)) (fun _ _ _ h => h) (Or.inl ⟨by rfl, ?_⟩) ?_ ?_
       rotate_left
       ·intro w'
        go_simp
        with_reducible rfl
       rotate_left
       ·simp only [putS]
        rfl
       refine pure_ (i := 3) (N := some 26) (v := ?_) (a' := ?_) qx14_4 rfl rfl (any_of HT_.out (by kernel_rfl)) (fun _ _ _ h => h) (Or.inl ⟨by rfl, ?_⟩) ?_ ?_
       rotate_left
       ·intro w'
        go_simp
        with_reducible rfl
       rotate_left
       ·simp only [putS]
        rfl
       refine pure_ (i := 4) (N := some 27) (v := ?_) (a' := ?_) qx14_5 rfl rfl (any_of HT_.out (by kernel_rfl)) (fun _ _ _ h => h) (Or.inl ⟨by rfl, ?_⟩) ?_ ?_
       rotate_left
       ·intro w'
        go_simp
        with_reducible rfl
       rotate_left
       ·simp only [putS]
        rfl
       refine pure_ (i := 5) (N := some 28) (v := ?_) (a' := ?_) qx14_6 rfl rfl (any_of HT_.out (by kernel_rfl)) (fun _ _ _ h => h) (Or.inl ⟨by rfl, ?_⟩) ?_ ?_
       rotate_left
       ·intro w'
        go_simp
        with_reducible rfl
       rotate_left
       ·simp only [putS]
        rfl
       refine pure_ (i := 6) (N := some 29) (v := ?_) (a' := ?_) qx14_7 rfl rfl (any_of HT_.out (by kernel_rfl)) (fun _ _ _ h => h) (Or.inl ⟨by rfl, ?_⟩) ?_ ?_
       rotate_left
       ·intro w'
        go_simp
        with_reducible rfl
       rotate_left
       ·simp only [putS]
        rfl
       refine pure_ (i := 7) (N := some 30) (v := ?_) (a' := ?_) qx14_8 rfl rfl (any_of HT_.out (by kernel_rfl)) (fun _ _ _ h => h) (Or.inl ⟨by rfl, ?_⟩) ?_ ?_
       rotate_left
       ·intro w'
        go_simp
        with_reducible rfl
       rotate_left
       ·simp only [putS]
        rfl
       refine pure_ (i := 8) (N := some 31) (v := ?_) (a' := ?_) qx14_9 rfl rfl (any_of HT_.out (by kernel_rfl)) (fun _ _ _ h => h) (Or.inl ⟨by rfl, ?_⟩) ?_ ?_
       rotate_left
       ·intro w'
        go_simp
        with_reducible rfl
       rotate_left
       ·simp only [putS]
        rfl
       refine pure_ (i := 10) (N := some 33) (v := ?_) (a' := ?_) qx14_14 rfl rfl (any_of HT_.out (by kernel_rfl)) (fun _ _ _ h => h) (Or.inl ⟨by rfl, ?_⟩) ?_ ?_
       rotate_left
       ·intro w'
        go_simp
        with_reducible rfl
       rotate_left
       ·simp only [putS]
        rfl
       refine take_ (i := 9) (N := some 32) (v := ?_) (a' := ?_) qx14_10 rfl rfl (take_ofW HT_.out HW_.out (by kernel_rfl)) (fun _ _ _ h => h) (Or.inl ⟨by rfl, ?_⟩) hHeld ?_ ?_
       rotate_left
       ·rintro w' ⟨s0, s1, s2, s3, s4, s5, s6, s7, s8, s9, s10, s11, s12, s13, s14, s15, s16, s17, s18, s19, s20, s21, s22, s23⟩
        go_simp
        with_reducible rfl
       rotate_left
       ·simp only [putS]
        rfl
       refine take_ (i := 11) (N := some 34) (v := ?_) (a' := ?_) qx14_11 rfl rfl (take_ofW HT_.out HW_.out (by kernel_rfl)) (fun _ _ _ h => h) (Or.inl ⟨by rfl, ?_⟩) hHeld ?_ ?_
       rotate_left
       ·rintro w' ⟨s0, s1, s2, s3, s4, s5, s6, s7, s8, s9, s10, s11, s12, s13, s14, s15, s16, s17, s18, s19, s20, s21, s22, s23⟩
        go_simp
        with_reducible rfl
       rotate_left
       ·simp only [putS]
        rfl
       refine pure_ (i := 12) (N := some 35) (v := ?_) (a' := ?_) qx14_12 rfl rfl (any_of HT_.out (by kernel_rfl)) (fun _ _ _ h => h) (Or.inl ⟨by rfl, ?_⟩) ?_ ?_
       rotate_left
       ·intro w'
        go_simp
        with_reducible rfl
       rotate_left
       ·simp only [putS]
        rfl
       refine pure_ (i := 13) (N := some 36) (v := ?_) (a' := ?_) qx14_13 rfl rfl (any_of HT_.out (by kernel_rfl)) (fun _ _ _ h => h) (Or.inl ⟨by rfl, ?_⟩) ?_ ?_
       rotate_left
       ·intro w'
        go_simp
        with_reducible rfl
       rotate_left
       ·simp only [putS]
        rfl
       refine done_ (done_of HT_.out (by kernel_rfl)) ?_
       try go_wp2
       go_ret
       exact ⟨_, by first | rfl | (simp [errW_none, errW_some] <;> rfl) | (simp [*, errW_none, errW_some] <;> rfl), by (with_reducible repeat (first | apply Kd.V_alloc | apply Kd.V_drewN | apply Kd.V_drew)); exact Kd.V_mono HO_0.out (fun _ hk => hk.1), by repeat (first | (with_reducible first | exact HB.out | apply below_alloc | apply pw_below_drewN | apply below_drew1 | refine below_set ?_ GE159.out) | exact HB.out)⟩
      ·rw [if_neg c10] at H
       have c10b0 : (((rd_T30 l0 x5_1).f0.f0) == a1_0 && (((rd_T30 l0 x5_1).f0.f1) == a1_1)) = false := by simpa using c10
       (try (have c10b1 : decide (((rd_T30 l0 x5_1).f0.f0) = a1_0 && (((rd_T30 l0 x5_1).f0.f1) == a1_1)) = false := by simpa using c10))
       (try (have c10b2 : (((rd_T30 l0 x5_1).f0.f0) == a1_0 && (((rd_T30 l0 x5_1).f0.f1) == a1_1)) = false := by simpa using c10))
       (try (have c10b3 : ¬ (((rd_T30 l0 x5_1).f0.f0) = a1_0 && (((rd_T30 l0 x5_1).f0.f1) == a1_1)) := by simpa using c10))
       clear c10
       obtain ⟨y163, hy163⟩ : ∃ y_ : List (S30), y_ = (([] : List (S30))) := ⟨_, rfl⟩
       replace H : (if x5_1 ≤ (l0.length : Int) then ((some (l0.take (x5_1 : Int).toNat : List (S30))).bind fun y166 => (if y163.length + y166.length < 1353245080339 then ((some (y163 ++ y166 : List (S30))).bind fun y171 => (if y171.length < 1353245080339 then ((some (y171 ++ [(⟨(⟨a1_0, a1_1⟩ : S28), a1_2, (⟨a1_3, a1_4⟩ : S28), (⟨a1_5, a1_6⟩ : S28), (⟨a1_7, a1_8⟩ : S28), a1_9, a1_10, a1_11⟩ : S30)] : List (S30))).bind fun y174 => ((some (l0.drop (x5_1 : Int).toNat : List (S30))).bind fun y177 => (if y174.length + y177.length < 1353245080339 then (some (y174 ++ y177)) else (none)))) else (none))) else (none))) else (none)) = some r := by first | (rw [hy163]; with_reducible exact H) | (have H2_ := (Option.bind_some _ _).symm.trans H; rw [hy163]; with_reducible exact H2_) | (have H2_ := (Option.bind_some _ _).symm.trans H; with_reducible exact H2_) | with_reducible exact H | (rw [hy163]; exact H) | exact H
       have Ny163 := am hy163
       clear hy163
       have c14b0 := eq_true (of_decide_eq_true (by first | (with_reducible assumption) | assumption) : 0 ≤ x5_1)
       by_cases c15 : x5_1 ≤ (l0.length : Int)
       ·rw [if_pos c15] at H
        have c15b0 := eq_true c15
        have c15b1 : decide (x5_1 ≤ (l0.length : Int)) = true := decide_eq_true c15
        clear c15
        obtain ⟨y166, hy166⟩ : ∃ y_ : List (S30), y_ = (l0.take (x5_1 : Int).toNat) := ⟨_, rfl⟩
        replace H : (if y163.length + y166.length < 1353245080339 then ((some (y163 ++ y166 : List (S30))).bind fun y171 => (if y171.length < 1353245080339 then ((some (y171 ++ [(⟨(⟨a1_0, a1_1⟩ : S28), a1_2, (⟨a1_3, a1_4⟩ : S28), (⟨a1_5, a1_6⟩ : S28), (⟨a1_7, a1_8⟩ : S28), a1_9, a1_10, a1_11⟩ : S30)] : List (S30))).bind fun y174 => ((some (l0.drop (x5_1 : Int).toNat : List (S30))).bind fun y177 => (if y174.length + y177.length < 1353245080339 then (some (y174 ++ y177)) else (none)))) else (none))) else (none)) = some r := by first | (rw [hy166]; with_reducible exact H) | (have H2_ := (Option.bind_some _ _).symm.trans H; rw [hy166]; with_reducible exact H2_) | (have H2_ := (Option.bind_some _ _).symm.trans H; with_reducible exact H2_) | with_reducible exact H | (rw [hy166]; exact H) | exact H
        have Ny166 := am hy166
        clear hy166
        by_cases c16 : y163.length + y166.length < 1353245080339
        ·rw [if_pos c16] at H
         have LMc16 := am c16
         clear c16
         obtain ⟨y171, hy171⟩ : ∃ y_ : List (S30), y_ = (y163 ++ y166) := ⟨_, rfl⟩
         replace H : (if y171.length < 1353245080339 then ((some (y171 ++ [(⟨(⟨a1_0, a1_1⟩ : S28), a1_2, (⟨a1_3, a1_4⟩ : S28), (⟨a1_5, a1_6⟩ : S28), (⟨a1_7, a1_8⟩ : S28), a1_9, a1_10, a1_11⟩ : S30)] : List (S30))).bind fun y174 => ((some (l0.drop (x5_1 : Int).toNat : List (S30))).bind fun y177 => (if y174.length + y177.length < 1353245080339 then (some (y174 ++ y177)) else (none)))) else (none)) = some r := by first | (rw [hy171]; with_reducible exact H) | (have H2_ := (Option.bind_some _ _).symm.trans H; rw [hy171]; with_reducible exact H2_) | (have H2_ := (Option.bind_some _ _).symm.trans H; with_reducible exact H2_) | with_reducible exact H | (rw [hy171]; exact H) | exact H
         have Ny171 := am hy171
         clear hy171
         by_cases c17 : y171.length < 1353245080339
         ·rw [if_pos c17] at H
          have LMc17 := am c17
          clear c17
          obtain ⟨y174, hy174⟩ : ∃ y_ : List (S30), y_ = (y171 ++ [(⟨(⟨a1_0, a1_1⟩ : S28), a1_2, (⟨a1_3, a1_4⟩ : S28), (⟨a1_5, a1_6⟩ : S28), (⟨a1_7, a1_8⟩ : S28), a1_9, a1_10, a1_11⟩ : S30)]) := ⟨_, rfl⟩
          replace H : ((some (l0.drop (x5_1 : Int).toNat : List (S30))).bind fun y177 => (if y174.length + y177.length < 1353245080339 then (some (y174 ++ y177)) else (none))) = some r := by first | (rw [hy174]; with_reducible exact H) | (have H2_ := (Option.bind_some _ _).symm.trans H; rw [hy174]; with_reducible exact H2_) | (have H2_ := (Option.bind_some _ _).symm.trans H; with_reducible exact H2_) | with_reducible exact H | (rw [hy174]; exact H) | exact H
          have Ny174 := am hy174
          clear hy174
          have c18b0 := eq_true (of_decide_eq_true (by first | (with_reducible assumption) | assumption) : 0 ≤ x5_1)
          have c19b0 := eq_true (of_decide_eq_true (by first | (with_reducible assumption) | assumption) : x5_1 ≤ (l0.length : Int))
          obtain ⟨y177, hy177⟩ : ∃ y_ : List (S30), y_ = (l0.drop (x5_1 : Int).toNat) := ⟨_, rfl⟩
          replace H : (if y174.length + y177.length < 1353245080339 then (some (y174 ++ y177)) else (none)) = some r := by first | (rw [hy177]; with_reducible exact H) | (have H2_ := (Option.bind_some _ _).symm.trans H; rw [hy177]; with_reducible exact H2_) | (have H2_ := (Option.bind_some _ _).symm.trans H; with_reducible exact H2_) | with_reducible exact H | (rw [hy177]; exact H) | exact H
          have Ny177 := am hy177
          clear hy177
          by_cases c20 : y174.length + y177.length < 1353245080339
          ·rw [if_pos c20] at H
           have LMc20 := am c20
           clear c20
           obtain ⟨y182, hy182⟩ : ∃ y_ : List (S30), y_ = (y174 ++ y177) := ⟨_, rfl⟩
           replace H : (some y182) = some r := by first | (rw [hy182]; with_reducible exact H) | (have H2_ := (Option.bind_some _ _).symm.trans H; rw [hy182]; with_reducible exact H2_) | (have H2_ := (Option.bind_some _ _).symm.trans H; with_reducible exact H2_) | with_reducible exact H | (rw [hy182]; exact H) | exact H
           have Ny182 := am hy182
           clear hy182
           obtain rfl := Option.some.inj H
           try go_wp2
           have n0_ := am (Kd.V_drew HO_0.out)
           have n1_ := am (blk_drew BK159.out)
           have n2_ := am (below_drew1 HB.out)
           clear HO_0
           clear BK159
           clear HB
           have HO_0 := n0_
           have BK159 := n1_
           have HB := n2_
           clear n0_ n1_ n2_
           have p160 : 0 ≤ (x5_1 : Int) := of_decide_eq_true (by first | (with_reducible assumption) | assumption)
           have q160 : x5_1 < (l0.length : Int) := of_decide_eq_true (by first | (with_reducible assumption) | assumption)
           obtain ⟨ad160, e160, hx160_0, hx160_1, hx160_2, hx160_3, hx160_4, hx160_5, hx160_6, hx160_7, hx160_8, hx160_9, hx160_10, hx160_11⟩ := at_T30 (Kd.V_reads' HO_0.out).2.2 x5_1 p160 q160
           cases e160
           replace p160 := eq_true p160
           replace q160 := eq_true q160
           refine start_ (n := 14) (S := fun w' => w'.cell? ⟨gb159, 0, none⟩ = some (.int .i64 a1_0) ∧ w'.cell? ⟨gb159, 1, none⟩ = some (.int .i64 a1_1) ∧ w'.cell? ⟨gb159, 2, none⟩ = some (.int .i64 a1_2) ∧ w'.cell? ⟨gb159, 3, none⟩ = some (.int .i64 a1_3) ∧ w'.cell? ⟨gb159, 4, none⟩ = some (.int .i64 a1_4) ∧ w'.cell? ⟨gb159, 5, none⟩ = some (.int .i64 a1_5) ∧ w'.cell? ⟨gb159, 6, none⟩ = some (.int .i64 a1_6) ∧ w'.cell? ⟨gb159, 7, none⟩ = some (.int .i64 a1_7) ∧ w'.cell? ⟨gb159, 8, none⟩ = some (.int .i64 a1_8) ∧ w'.cell? ⟨gb159, 9, none⟩ = some (.int .i64 a1_9) ∧ w'.cell? ⟨gb159, 10, none⟩ = some (.bool a1_10) ∧ w'.cell? ⟨gb159, 11, none⟩ = some (.string a1_11) ∧ w'.cell? (ad160.add ((x5_1).toNat * 12)) = some (.int .i64 ((rd_T30 l0 x5_1).f0.f0)) ∧ w'.cell? ⟨(ad160.add ((x5_1).toNat * 12)).block, (ad160.add ((x5_1).toNat * 12)).off + 1, none⟩ = some (.int .i64 ((rd_T30 l0 x5_1).f0.f1)) ∧ w'.cell? ⟨(ad160.add ((x5_1).toNat * 12)).block, (ad160.add ((x5_1).toNat * 12)).off + 2, none⟩ = some (.int .i64 ((rd_T30 l0 x5_1).f1)) ∧ w'.cell? ⟨(ad160.add ((x5_1).toNat * 12)).block, (ad160.add ((x5_1).toNat * 12)).off + 3, none⟩ = some (.int .i64 ((rd_T30 l0 x5_1).f2.f0)) ∧ w'.cell? ⟨(ad160.add ((x5_1).toNat * 12)).block, (ad160.add ((x5_1).toNat * 12)).off + 4, none⟩ = some (.int .i64 ((rd_T30 l0 x5_1).f2.f1)) ∧ w'.cell? ⟨(ad160.add ((x5_1).toNat * 12)).block, (ad160.add ((x5_1).toNat * 12)).off + 5, none⟩ = some (.int .i64 ((rd_T30 l0 x5_1).f3.f0)) ∧ w'.cell? ⟨(ad160.add ((x5_1).toNat * 12)).block, (ad160.add ((x5_1).toNat * 12)).off + 6, none⟩ = some (.int .i64 ((rd_T30 l0 x5_1).f3.f1)) ∧ w'.cell? ⟨(ad160.add ((x5_1).toNat * 12)).block, (ad160.add ((x5_1).toNat * 12)).off + 7, none⟩ = some (.int .i64 ((rd_T30 l0 x5_1).f4.f0)) ∧ w'.cell? ⟨(ad160.add ((x5_1).toNat * 12)).block, (ad160.add ((x5_1).toNat * 12)).off + 8, none⟩ = some (.int .i64 ((rd_T30 l0 x5_1).f4.f1)) ∧ w'.cell? ⟨(ad160.add ((x5_1).toNat * 12)).block, (ad160.add ((x5_1).toNat * 12)).off + 9, none⟩ = some (.int .i64 ((rd_T30 l0 x5_1).f5)) ∧ w'.cell? ⟨(ad160.add ((x5_1).toNat * 12)).block, (ad160.add ((x5_1).toNat * 12)).off + 10, none⟩ = some (.bool ((rd_T30 l0 x5_1).f6)) ∧ w'.cell? ⟨(ad160.add ((x5_1).toNat * 12)).block, (ad160.add ((x5_1).toNat * 12)).off + 11, none⟩ = some (.string ((rd_T30 l0 x5_1).f7))) (ds := []) qx14_0 (by kernel_rfl) rfl rfl ⟨(blk_cell BK159.out 0).trans rfl, (blk_cell BK159.out 1).trans rfl, (blk_cell BK159.out 2).trans rfl, (blk_cell BK159.out 3).trans rfl, (blk_cell BK159.out 4).trans rfl, (blk_cell BK159.out 5).trans rfl, (blk_cell BK159.out 6).trans rfl, (blk_cell BK159.out 7).trans rfl, (blk_cell BK159.out 8).trans rfl, (blk_cell BK159.out 9).trans rfl, (blk_cell BK159.out 10).trans rfl, (blk_cell BK159.out 11).trans rfl, hx160_0, hx160_1, hx160_2, hx160_3, hx160_4, hx160_5, hx160_6, hx160_7, hx160_8, hx160_9, hx160_10, hx160_11⟩ (fun hHeld => ?_); refine with_tabW spec_insertOp.tab2 spec_insertOp.bits2 (fun HT_ HW_ => ?_)
           generalize wr.drew = w21 at HO_0 BK159 HB hx160_0 hx160_1 hx160_10 hx160_11 hx160_2 hx160_3 hx160_4 hx160_5 hx160_6 hx160_7 hx160_8 hx160_9 hHeld ⊢
           refine pure_ (i := 0) (N := some 7) (v := ?_) (a' := ?_) qx14_1 rfl rfl (any_of HT_.out (by kernel_rfl)) (fun _ _ _ h => h) (Or.inl ⟨by rfl, ?_⟩) ?_ ?_
           rotate_left
           ·intro w'
            go_simp
            with_reducible rfl
           rotate_left
           ·simp only [putS]
            rfl
           refine pure_ (i := 1) (N := some 8) (v := ?_) (a' := ?_) qx14_2 rfl rfl (any_of HT_.out (by kernel_rfl)) (fun _ _ _ h => h) (Or.inl ⟨by rfl, ?_⟩) ?_ ?_
           rotate_left
           ·intro w'
            go_simp
            with_reducible rfl
           rotate_left
           ·simp only [putS]
            rfl
           refine pure_ (i := 2) (N := some 9) (v := ?_) (a' := ?_) qx14_3 rfl rfl (any_of HT_.out (by kernel_rfl)) (fun _ _ _ h => h) (Or.inl ⟨by rfl, ?_⟩) ?_ ?_
           rotate_left
           ·intro w'
            go_simp
            with_reducible rfl
           rotate_left
           ·simp only [putS]
            rfl
           refine pure_ (i := 3) (N := some 10) (v := ?_) (a' := ?_) qx14_4 rfl rfl (any_of HT_.out (by kernel_rfl)) (fun _ _ _ h => h) (Or.inl ⟨by rfl, ?_⟩) ?_ ?_
           rotate_left
           ·intro w'
            go_simp
            with_reducible rfl
           rotate_left
           ·simp only [putS]
            rfl
           refine pure_ (i := 4) (N := some 11) (v := ?_) (a' := ?_) qx14_5 rfl rfl (any_of HT_.out (by kernel_rfl)) (fun _ _ _ h => h) (Or.inl ⟨by rfl, ?_⟩) ?_ ?_
           rotate_left
           ·intro w'
            go_simp
            with_reducible rfl
           rotate_left
           ·simp only [putS]
            rfl
           refine pure_ (i := 5) (N := some 12) (v := ?_) (a' := ?_) qx14_6 rfl rfl (any_of HT_.out (by kernel_rfl)) (fun _ _ _ h => h) (Or.inl ⟨by rfl, ?_⟩) ?_ ?_
           rotate_left
           ·intro w'
            go_simp
            with_reducible rfl
           rotate_left
           ·simp only [putS]
            rfl
           refine pure_ (i := 6) (N := some 13) (v := ?_) (a' := ?_) qx14_7 rfl rfl (any_of HT_.out (by kernel_rfl)) (fun _ _ _ h => h) (Or.inl ⟨by rfl, ?_⟩) ?_ ?_
           rotate_left
           ·intro w'
            go_simp
            with_reducible rfl
           rotate_left
           ·simp only [putS]
            rfl
           refine pure_ (i := 7) (N := some 14) (v := ?_) (a' := ?_) qx14_8 rfl rfl (any_of HT_.out (by kernel_rfl)) (fun _ _ _ h => h) (Or.inl ⟨by rfl, ?_⟩) ?_ ?_
           rotate_left
           ·intro w'
            go_simp
            with_reducible rfl
           rotate_left
           ·simp only [putS]
            rfl
           refine pure_ (i := 8) (N := some 15) (v := ?_) (a' := ?_) qx14_9 rfl rfl (any_of HT_.out (by kernel_rfl)) (fun _ _ _ h => h) (Or.inl ⟨by rfl, ?_⟩) ?_ ?_
           rotate_left
           ·intro w'
            go_simp
            with_reducible rfl
           rotate_left
           ·simp only [putS]
            rfl
           refine pure_ (i := 10) (N := some 17) (v := ?_) (a' := ?_) qx14_14 rfl rfl (any_of HT_.out (by kernel_rfl)) (fun _ _ _ h => h) (Or.inl ⟨by rfl, ?_⟩) ?_ ?_
           rotate_left
           ·intro w'
            go_simp
            with_reducible rfl
           rotate_left
           ·simp only [putS]
            rfl
           refine take_ (i := 9) (N := some 16) (v := ?_) (a' := ?_) qx14_10 rfl rfl (take_ofW HT_.out HW_.out (by kernel_rfl)) (fun _ _ _ h => h) (Or.inl ⟨by rfl, ?_⟩) hHeld ?_ ?_
           rotate_left
           ·rintro w' ⟨s0, s1, s2, s3, s4, s5, s6, s7, s8, s9, s10, s11, s12, s13, s14, s15, s16, s17, s18, s19, s20, s21, s22, s23⟩
            go_simp
            with_reducible rfl
           rotate_left
           ·simp only [putS]
            rfl
           refine take_ (i := 11) (N := some 18) (v := ?_) (a' := ?_) qx14_11 rfl rfl (take_ofW HT_.out HW_.out (by kernel_rfl)) (fun _ _ _ h => h) (Or.inl ⟨by rfl, ?_⟩) hHeld ?_ ?_
           rotate_left
           ·rintro w' ⟨s0, s1, s2, s3, s4, s5, s6, s7, s8, s9, s10, s11, s12, s13, s14, s15, s16, s17, s18, s19, s20, s21, s22, s23⟩
            go_simp
            with_reducible rfl
           rotate_left
           ·simp only [putS]
            rfl
           refine one_ (i := 12) (N := some 19) qx14_12 rfl rfl (one_of HT_.out (by kernel_rfl)) (by decide) (fun K hK => ?_)
           refine goes_ Try.func67 (by kernel_rfl) rfl #[.agg #[.int .i64 ((rd_T30 l0 x5_1).f0.f0), .int .i64 ((rd_T30 l0 x5_1).f0.f1)], .agg #[.int .i64 a1_0, .int .i64 a1_1]] (by rfl) rfl rfl (by (try simp only [List.map_toArray, List.map_cons, List.map_nil]); first | done | rfl | (simp only [List.length_drop, List.length_take]; rfl)) ?_
           with_reducible refine (spec_stampLess.calls ((rd_T30 l0 x5_1).f0.f0) ((rd_T30 l0 x5_1).f0.f1) a1_0 a1_1 false _ A6.out).mono ?_
           rintro e w22 ⟨rfl, hb⟩
           have HS12_ := (hb.cell (World.block_lt_of_cell? _ _ (hHeld.2.2.2.2.2.2.2.2.2.2.2.2.1))).trans (hHeld.2.2.2.2.2.2.2.2.2.2.2.2.1)
           have HS13_ := (hb.cell (World.block_lt_of_cell? _ _ (hHeld.2.2.2.2.2.2.2.2.2.2.2.2.2.1))).trans (hHeld.2.2.2.2.2.2.2.2.2.2.2.2.2.1)
           have HS14_ := (hb.cell (World.block_lt_of_cell? _ _ (hHeld.2.2.2.2.2.2.2.2.2.2.2.2.2.2.1))).trans (hHeld.2.2.2.2.2.2.2.2.2.2.2.2.2.2.1)
           have HS15_ := (hb.cell (World.block_lt_of_cell? _ _ (hHeld.2.2.2.2.2.2.2.2.2.2.2.2.2.2.2.1))).trans (hHeld.2.2.2.2.2.2.2.2.2.2.2.2.2.2.2.1)
           have HS16_ := (hb.cell (World.block_lt_of_cell? _ _ (hHeld.2.2.2.2.2.2.2.2.2.2.2.2.2.2.2.2.1))).trans (hHeld.2.2.2.2.2.2.2.2.2.2.2.2.2.2.2.2.1)
           have HS17_ := (hb.cell (World.block_lt_of_cell? _ _ (hHeld.2.2.2.2.2.2.2.2.2.2.2.2.2.2.2.2.2.1))).trans (hHeld.2.2.2.2.2.2.2.2.2.2.2.2.2.2.2.2.2.1)
           have HS18_ := (hb.cell (World.block_lt_of_cell? _ _ (hHeld.2.2.2.2.2.2.2.2.2.2.2.2.2.2.2.2.2.2.1))).trans (hHeld.2.2.2.2.2.2.2.2.2.2.2.2.2.2.2.2.2.2.1)
           have HS19_ := (hb.cell (World.block_lt_of_cell? _ _ (hHeld.2.2.2.2.2.2.2.2.2.2.2.2.2.2.2.2.2.2.2.1))).trans (hHeld.2.2.2.2.2.2.2.2.2.2.2.2.2.2.2.2.2.2.2.1)
           have HS20_ := (hb.cell (World.block_lt_of_cell? _ _ (hHeld.2.2.2.2.2.2.2.2.2.2.2.2.2.2.2.2.2.2.2.2.1))).trans (hHeld.2.2.2.2.2.2.2.2.2.2.2.2.2.2.2.2.2.2.2.2.1)
           have HS21_ := (hb.cell (World.block_lt_of_cell? _ _ (hHeld.2.2.2.2.2.2.2.2.2.2.2.2.2.2.2.2.2.2.2.2.2.1))).trans (hHeld.2.2.2.2.2.2.2.2.2.2.2.2.2.2.2.2.2.2.2.2.2.1)
           have HS22_ := (hb.cell (World.block_lt_of_cell? _ _ (hHeld.2.2.2.2.2.2.2.2.2.2.2.2.2.2.2.2.2.2.2.2.2.2.1))).trans (hHeld.2.2.2.2.2.2.2.2.2.2.2.2.2.2.2.2.2.2.2.2.2.2.1)
           have HS23_ := (hb.cell (World.block_lt_of_cell? _ _ (hHeld.2.2.2.2.2.2.2.2.2.2.2.2.2.2.2.2.2.2.2.2.2.2.2))).trans (hHeld.2.2.2.2.2.2.2.2.2.2.2.2.2.2.2.2.2.2.2.2.2.2.2)
           refine ⟨_, rfl, ?_⟩
           have n0_ := am (Kd.V_below (by (with_reducible repeat (first | apply Kd.V_alloc | apply Kd.V_drewN | apply Kd.V_drew)); exact HO_0.out) hb)
           have n1_ := am (blk_below (g := gb159) (o := .cells #[.int .i64 a1_0, .int .i64 a1_1, .int .i64 a1_2, .int .i64 a1_3, .int .i64 a1_4, .int .i64 a1_5, .int .i64 a1_6, .int .i64 a1_7, .int .i64 a1_8, .int .i64 a1_9, .bool a1_10, .string a1_11] 30 (0, 0)) (by (with_reducible repeat (first | refine blk_drewN ?_ _ | refine blk_drew ?_ | refine blk_alloc ?_ _)); exact BK159.out) hb)
           have n2_ := am (below_step (by repeat (first | (with_reducible first | exact HB.out | apply below_alloc | apply pw_below_drewN | apply below_drew1 | refine below_set ?_ GE159.out) | exact HB.out)) hb)
           clear HO_0
           clear BK159
           clear HB
           have HO_0 := n0_
           have BK159 := n1_
           have HB := n2_
           clear n0_ n1_ n2_
           (try clear hb)
           (try clear hb2)
           (try clear hk)
           (try clear hi)
           refine hK.out _ _ ⟨(blk_cell BK159.out 0).trans rfl, (blk_cell BK159.out 1).trans rfl, (blk_cell BK159.out 2).trans rfl, (blk_cell BK159.out 3).trans rfl, (blk_cell BK159.out 4).trans rfl, (blk_cell BK159.out 5).trans rfl, (blk_cell BK159.out 6).trans rfl, (blk_cell BK159.out 7).trans rfl, (blk_cell BK159.out 8).trans rfl, (blk_cell BK159.out 9).trans rfl, (blk_cell BK159.out 10).trans rfl, (blk_cell BK159.out 11).trans rfl, HS12_, HS13_, HS14_, HS15_, HS16_, HS17_, HS18_, HS19_, HS20_, HS21_, HS22_, HS23_⟩ (fun hHeld => ?_)
           clear hK K
           refine norm_ (a' := ?_) ?_ ?_
           rotate_left
           ·show Act.put _ (some 19) _ = _
            simp only [putS]
            rfl
           refine pure_ (i := 13) (N := some 20) (v := ?_) (a' := ?_) qx14_13 rfl rfl (any_of HT_.out (by kernel_rfl)) (fun _ _ _ h => h) (Or.inl ⟨by rfl, ?_⟩) ?_ ?_
           rotate_left
           ·intro w'
            go_simp
            with_reducible rfl
           rotate_left
           ·simp only [putS]
            rfl
           refine done_ (done_of HT_.out (by kernel_rfl)) ?_
           try go_wp2
           have n0_ := am (Kd.V_drew HO_0.out)
           have n1_ := am (blk_drew BK159.out)
           have n2_ := am (below_drew1 HB.out)
           clear HO_0
           clear BK159
           clear HB
           have HO_0 := n0_
           have BK159 := n1_
           have HB := n2_
           clear n0_ n1_ n2_
           have p162 : 0 ≤ (x5_1 : Int) := of_decide_eq_true (by first | (with_reducible assumption) | assumption)
           have q162 : x5_1 < (l0.length : Int) := of_decide_eq_true (by first | (with_reducible assumption) | assumption)
           obtain ⟨ad162, e162, hx162_0, hx162_1, hx162_2, hx162_3, hx162_4, hx162_5, hx162_6, hx162_7, hx162_8, hx162_9, hx162_10, hx162_11⟩ := at_T30 (Kd.V_reads' HO_0.out).2.2 x5_1 p162 q162
           obtain rfl : ad160 = ad162 := (by injection e162)
           replace p162 := eq_true p162
           replace q162 := eq_true q162
           refine start_ (n := 14) (S := fun w' => w'.cell? ⟨gb159, 0, none⟩ = some (.int .i64 a1_0) ∧ w'.cell? ⟨gb159, 1, none⟩ = some (.int .i64 a1_1) ∧ w'.cell? ⟨gb159, 2, none⟩ = some (.int .i64 a1_2) ∧ w'.cell? ⟨gb159, 3, none⟩ = some (.int .i64 a1_3) ∧ w'.cell? ⟨gb159, 4, none⟩ = some (.int .i64 a1_4) ∧ w'.cell? ⟨gb159, 5, none⟩ = some (.int .i64 a1_5) ∧ w'.cell? ⟨gb159, 6, none⟩ = some (.int .i64 a1_6) ∧ w'.cell? ⟨gb159, 7, none⟩ = some (.int .i64 a1_7) ∧ w'.cell? ⟨gb159, 8, none⟩ = some (.int .i64 a1_8) ∧ w'.cell? ⟨gb159, 9, none⟩ = some (.int .i64 a1_9) ∧ w'.cell? ⟨gb159, 10, none⟩ = some (.bool a1_10) ∧ w'.cell? ⟨gb159, 11, none⟩ = some (.string a1_11) ∧ w'.cell? (ad160.add ((x5_1).toNat * 12)) = some (.int .i64 ((rd_T30 l0 x5_1).f0.f0)) ∧ w'.cell? ⟨(ad160.add ((x5_1).toNat * 12)).block, (ad160.add ((x5_1).toNat * 12)).off + 1, none⟩ = some (.int .i64 ((rd_T30 l0 x5_1).f0.f1)) ∧ w'.cell? ⟨(ad160.add ((x5_1).toNat * 12)).block, (ad160.add ((x5_1).toNat * 12)).off + 2, none⟩ = some (.int .i64 ((rd_T30 l0 x5_1).f1)) ∧ w'.cell? ⟨(ad160.add ((x5_1).toNat * 12)).block, (ad160.add ((x5_1).toNat * 12)).off + 3, none⟩ = some (.int .i64 ((rd_T30 l0 x5_1).f2.f0)) ∧ w'.cell? ⟨(ad160.add ((x5_1).toNat * 12)).block, (ad160.add ((x5_1).toNat * 12)).off + 4, none⟩ = some (.int .i64 ((rd_T30 l0 x5_1).f2.f1)) ∧ w'.cell? ⟨(ad160.add ((x5_1).toNat * 12)).block, (ad160.add ((x5_1).toNat * 12)).off + 5, none⟩ = some (.int .i64 ((rd_T30 l0 x5_1).f3.f0)) ∧ w'.cell? ⟨(ad160.add ((x5_1).toNat * 12)).block, (ad160.add ((x5_1).toNat * 12)).off + 6, none⟩ = some (.int .i64 ((rd_T30 l0 x5_1).f3.f1)) ∧ w'.cell? ⟨(ad160.add ((x5_1).toNat * 12)).block, (ad160.add ((x5_1).toNat * 12)).off + 7, none⟩ = some (.int .i64 ((rd_T30 l0 x5_1).f4.f0)) ∧ w'.cell? ⟨(ad160.add ((x5_1).toNat * 12)).block, (ad160.add ((x5_1).toNat * 12)).off + 8, none⟩ = some (.int .i64 ((rd_T30 l0 x5_1).f4.f1)) ∧ w'.cell? ⟨(ad160.add ((x5_1).toNat * 12)).block, (ad160.add ((x5_1).toNat * 12)).off + 9, none⟩ = some (.int .i64 ((rd_T30 l0 x5_1).f5)) ∧ w'.cell? ⟨(ad160.add ((x5_1).toNat * 12)).block, (ad160.add ((x5_1).toNat * 12)).off + 10, none⟩ = some (.bool ((rd_T30 l0 x5_1).f6)) ∧ w'.cell? ⟨(ad160.add ((x5_1).toNat * 12)).block, (ad160.add ((x5_1).toNat * 12)).off + 11, none⟩ = some (.string ((rd_T30 l0 x5_1).f7))) (ds := []) qx14_0 (by kernel_rfl) rfl rfl ⟨(blk_cell BK159.out 0).trans rfl, (blk_cell BK159.out 1).trans rfl, (blk_cell BK159.out 2).trans rfl, (blk_cell BK159.out 3).trans rfl, (blk_cell BK159.out 4).trans rfl, (blk_cell BK159.out 5).trans rfl, (blk_cell BK159.out 6).trans rfl, (blk_cell BK159.out 7).trans rfl, (blk_cell BK159.out 8).trans rfl, (blk_cell BK159.out 9).trans rfl, (blk_cell BK159.out 10).trans rfl, (blk_cell BK159.out 11).trans rfl, hx162_0, hx162_1, hx162_2, hx162_3, hx162_4, hx162_5, hx162_6, hx162_7, hx162_8, hx162_9, hx162_10, hx162_11⟩ (fun hHeld => ?_); refine with_tabW spec_insertOp.tab4 spec_insertOp.bits4 (fun HT_ HW_ => ?_)
           generalize w22.drew = w23 at HO_0 BK159 HB hx162_0 hx162_1 hx162_10 hx162_11 hx162_2 hx162_3 hx162_4 hx162_5 hx162_6 hx162_7 hx162_8 hx162_9 hHeld ⊢
           refine pure_ (i := 0) (N := some 23) (v := ?_) (a' := ?_) qx14_1 rfl rfl (any_of HT_.out (by kernel_rfl)) (fun _ _ _ h => h) (Or.inl ⟨by rfl, ?_⟩) ?_ ?_
           rotate_left
           ·intro w'
            go_simp
            with_reducible rfl
           rotate_left
           ·simp only [putS]
            rfl
           refine pure_ (i := 1) (N := some 24) (v := ?_) (a' := ?_) qx14_2 rfl rfl (any_of HT_.out (by kernel_rfl)) (fun _ _ _ h => h) (Or.inl ⟨by rfl, ?_⟩) ?_ ?_
           rotate_left
           ·intro w'
            go_simp
            with_reducible rfl
           rotate_left
           ·simp only [putS]
            rfl
           refine pure_ (i := 2) (N := some 25) (v := ?_) (a' := ?_) qx14_3 rfl rfl (any_of HT_.out (by kernel_rfl)) (fun _ _ _ h => h) (Or.inl ⟨by rfl, ?_⟩) ?_ ?_
           rotate_left
           ·intro w'
            go_simp
            with_reducible rfl
           rotate_left
           ·simp only [putS]
            rfl
           refine pure_ (i := 3) (N := some 26) (v := ?_) (a' := ?_) qx14_4 rfl rfl (any_of HT_.out (by kernel_rfl)) (fun _ _ _ h => h) (Or.inl ⟨by rfl, ?_⟩) ?_ ?_
           rotate_left
           ·intro w'
            go_simp
            with_reducible rfl
           rotate_left
           ·simp only [putS]
            rfl
           refine pure_ (i := 4) (N := some 27) (v := ?_) (a' := ?_) qx14_5 rfl rfl (any_of HT_.out (by kernel_rfl)) (fun _ _ _ h => h) (Or.inl ⟨by rfl, ?_⟩) ?_ ?_
           rotate_left
           ·intro w'
            go_simp
            with_reducible rfl
           rotate_left
           ·simp only [putS]
            rfl
           refine pure_ (i := 5) (N := some 28) (v := ?_) (a' := ?_) qx14_6 rfl rfl (any_of HT_.out (by kernel_rfl)) (fun _ _ _ h => h) (Or.inl ⟨by rfl, ?_⟩) ?_ ?_
           rotate_left
           ·intro w'
            go_simp
            with_reducible rfl
           rotate_left
           ·simp only [putS]
            rfl
           refine pure_ (i := 6) (N := some 29) (v := ?_) (a' := ?_) qx14_7 rfl rfl (any_of HT_.out (by kernel_rfl)) (fun _ _ _ h => h) (Or.inl ⟨by rfl, ?_⟩) ?_ ?_
           rotate_left
           ·intro w'
            go_simp
            with_reducible rfl
           rotate_left
           ·simp only [putS]
            rfl
           refine pure_ (i := 7) (N := some 30) (v := ?_) (a' := ?_) qx14_8 rfl rfl (any_of HT_.out (by kernel_rfl)) (fun _ _ _ h => h) (Or.inl ⟨by rfl, ?_⟩) ?_ ?_
           rotate_left
           ·intro w'
            go_simp
            with_reducible rfl
           rotate_left
           ·simp only [putS]
            rfl
           refine pure_ (i := 8) (N := some 31) (v := ?_) (a' := ?_) qx14_9 rfl rfl (any_of HT_.out (by kernel_rfl)) (fun _ _ _ h => h) (Or.inl ⟨by rfl, ?_⟩) ?_ ?_
           rotate_left
           ·intro w'
            go_simp
            with_reducible rfl
           rotate_left
           ·simp only [putS]
            rfl
           refine pure_ (i := 10) (N := some 33) (v := ?_) (a' := ?_) qx14_14 rfl rfl (any_of HT_.out (by kernel_rfl)) (fun _ _ _ h => h) (Or.inl ⟨by rfl, ?_⟩) ?_ ?_
           rotate_left
           ·intro w'
            go_simp
            with_reducible rfl
           rotate_left
           ·simp only [putS]
            rfl
           refine take_ (i := 9) (N := some 32) (v := ?_) (a' := ?_) qx14_10 rfl rfl (take_ofW HT_.out HW_.out (by kernel_rfl)) (fun _ _ _ h => h) (Or.inl ⟨by rfl, ?_⟩) hHeld ?_ ?_
           rotate_left
           ·rintro w' ⟨s0, s1, s2, s3, s4, s5, s6, s7, s8, s9, s10, s11, s12, s13, s14, s15, s16, s17, s18, s19, s20, s21, s22, s23⟩
            go_simp
            with_reducible rfl
           rotate_left
           ·simp only [putS]
            rfl
           refine take_ (i := 11) (N := some 34) (v := ?_) (a' := ?_) qx14_11 rfl rfl (take_ofW HT_.out HW_.out (by kernel_rfl)) (fun _ _ _ h => h) (Or.inl ⟨by rfl, ?_⟩) hHeld ?_ ?_
           rotate_left
           ·rintro w' ⟨s0, s1, s2, s3, s4, s5, s6, s7, s8, s9, s10, s11, s12, s13, s14, s15, s16, s17, s18, s19, s20, s21, s22, s23⟩
            go_simp
            with_reducible rfl
           rotate_left
           ·simp only [putS]
            rfl
           refine pure_ (i := 12) (N := some 35) (v := ?_) (a' := ?_) qx14_12 rfl rfl (any_of HT_.out (by kernel_rfl)) (fun _ _ _ h => h) (Or.inl ⟨by rfl, ?_⟩) ?_ ?_
           rotate_left
           ·intro w'
            go_simp
            with_reducible rfl
           rotate_left
           ·simp only [putS]
            rfl
           refine pure_ (i := 13) (N := some 36) (v := ?_) (a' := ?_) qx14_13 rfl rfl (any_of HT_.out (by kernel_rfl)) (fun _ _ _ h => h) (Or.inl ⟨by rfl, ?_⟩) ?_ ?_
           rotate_left
           ·intro w'
            go_simp
            with_reducible rfl
           rotate_left
           ·simp only [putS]
            rfl
           refine done_ (done_of HT_.out (by kernel_rfl)) ?_
           try go_wp2_with (first | ((with_reducible refine gate_dst (N := 38) rfl ?_); refine Kd.R_lit k30 _ 30 ?hg (N := 38) ?hd (xs := ([] : List (S30))) (inner := []) (ok := fun _ => True) (okp := fun _ => True) ?hr ?hp (fun _ hk => hk) trivial (Below.refl _ _) (Nat.le_refl _) (by simp) ?_; (case hd => rfl); (case hg => rfl); (case hr => first | (go_simp; done) | (go_simp; rfl)); (case hp => exact (Reps.none _ _)); intro v164 w24 ho25 hb hg_ hnew_; clear hg_ hnew_; (first | rw [← Ny163.out] at ho25 | (simp only [Int.reduceToNat] at ho25; rw [← Ny163.out] at ho25)); have n0_ := am (Kd.V_elder' (by (with_reducible repeat (first | apply Kd.V_alloc | apply Kd.V_drewN | apply Kd.V_drew)); exact HO_0.out) (Kd.R_base ho25) hb); have n1_ := am (Kd.R_lower (Kd.R_newB (Kd.R_newM (M := fun k_ => (w.heap.size ≤ k_)) ho25 (below_size (by repeat (first | (with_reducible first | exact HB.out | apply below_alloc | apply pw_below_drewN | apply below_drew1 | refine below_set ?_ GE159.out) | exact HB.out))) (fun k_ h_ => h_)) (g := gb159) (o := .cells #[.int .i64 a1_0, .int .i64 a1_1, .int .i64 a1_2, .int .i64 a1_3, .int .i64 a1_4, .int .i64 a1_5, .int .i64 a1_6, .int .i64 a1_7, .int .i64 a1_8, .int .i64 a1_9, .bool a1_10, .string a1_11] 30 (0, 0)) (by (with_reducible repeat (first | refine blk_drewN ?_ _ | refine blk_drew ?_ | refine blk_alloc ?_ _)); exact BK159.out)) (below_size (by repeat (first | (with_reducible first | exact HB.out | apply below_alloc | apply pw_below_drewN | apply below_drew1 | refine below_set ?_ GE159.out) | exact HB.out)))); have n2_ := am (blk_below (g := gb159) (o := .cells #[.int .i64 a1_0, .int .i64 a1_1, .int .i64 a1_2, .int .i64 a1_3, .int .i64 a1_4, .int .i64 a1_5, .int .i64 a1_6, .int .i64 a1_7, .int .i64 a1_8, .int .i64 a1_9, .bool a1_10, .string a1_11] 30 (0, 0)) (by (with_reducible repeat (first | refine blk_drewN ?_ _ | refine blk_drew ?_ | refine blk_alloc ?_ _)); exact BK159.out) hb); have n3_ := am (below_step (by repeat (first | (with_reducible first | exact HB.out | apply below_alloc | apply pw_below_drewN | apply below_drew1 | refine below_set ?_ GE159.out) | exact HB.out)) hb); clear HO_0; clear BK159; clear HB; have HO_0 := n0_; have HO165 := n1_; have BK159 := n2_; have HB := n3_; clear n0_ n1_ n2_ n3_; clear hb ho25; have q26 : (x5_1 : Int) ≤ ((l0.length : Int) : Int) := of_decide_eq_true (by first | (with_reducible assumption) | assumption); obtain ⟨i026, hi026, _, hsz26, _⟩ := info_parts info30; have hroom26 : l0.length ≤ c0 := (Kd.V_reads' HO_0.out).2.1; have hC26 : Kd.F k30 _ _ (some ad160) l0.length l0 := (Kd.V_at (base := w.heap.size) HO_0.out).2.2; have hcut26 := cut_to (P := Try.prog) 36 30 .i64 Try.underlying36 hi026 (some ad160) l0.length c0 x5_1 (of_decide_eq_true (by first | (with_reducible assumption) | assumption)) q26 hroom26; have hr26 := Kd.F_take (m := (x5_1 : Int).toNat) hC26 (by omega); have hy26 : y166.length = (x5_1 : Int).toNat := (by rw [Ny166.out, List.length_take]; omega); rw [← Ny166.out] at hr26; rw [← hy26] at hcut26; have HO170 := am (show Kd.V k30 30 _ w.heap.size _ (.slice (some ad160) y166.length c0) y166 from Kd.V_mk (by omega) hr26); have HC170 := am (show y166.length ≤ c0 from by omega); clear hr26 hC26 hroom26 hi026 hsz26; have KY26 := am hy26; clear hy26; replace q26 := eq_true q26) | ((with_reducible refine gate_builtin (b := .append) (xs := #[.tmp 38, .tmp 41]) rfl ?_); at_builtin; refine Kd.R_append_rows k30 (w0 := w) w.heap.size rfl (.tmp 38) (.tmp 41) 36 30 (.agg #[(.int .i64 0), (.int .i64 0), (.int .i64 0), (.int .i64 0), (.int .i64 0), (.int .i64 0), (.int .i64 0), (.int .i64 0), (.int .i64 0), (.int .i64 0), (.bool false), (.string ⟨#[]⟩)]) 104 rfl Try.underlying36 info30 rfl (by decide) (by omega) v164 y163 y166 _ _ _ (fun k_ => (w.heap.size ≤ k_) ∧ k_ ≠ gb159) (fun _ => False) rfl rfl ?aO ?aR (fun _ _ h => h) (fun _ h => h.elim) ?aF ?aB ?aS ?aL ?_; (case aR => repeat (first | exact (Kd.V_reads' HO170.out).2.2 | (with_reducible refine Kd.C_alloc ?_ _) | (with_reducible refine Kd.C_drewN ?_ _) | (with_reducible refine Kd.C_drew ?_))); (case aB => exact (by repeat (first | (with_reducible first | exact HB.out | apply below_alloc | apply pw_below_drewN | apply below_drew1 | refine below_set ?_ GE159.out) | exact HB.out))); (case aF => exact (fun k_ hk => ⟨(Nat.le_trans (below_size (by repeat (first | (with_reducible first | exact HB.out | apply below_alloc | apply pw_below_drewN | apply below_drew1 | refine below_set ?_ GE159.out) | exact HB.out))) hk), Kd.freshB (g := gb159) (o := .cells #[.int .i64 a1_0, .int .i64 a1_1, .int .i64 a1_2, .int .i64 a1_3, .int .i64 a1_4, .int .i64 a1_5, .int .i64 a1_6, .int .i64 a1_7, .int .i64 a1_8, .int .i64 a1_9, .bool a1_10, .string a1_11] 30 (0, 0)) (by (with_reducible repeat (first | refine blk_drewN ?_ _ | refine blk_drew ?_ | refine blk_alloc ?_ _)); exact BK159.out) k_ hk⟩)); (case aO => exact (by (with_reducible repeat (first | apply Kd.R_alloc | apply Kd.R_drewN | apply Kd.R_drew)); exact Kd.R_mono HO165.out (fun _ hk => ⟨hk.1.1, hk.2⟩))); (case aS => exact (below_size (by repeat (first | (with_reducible first | exact HB.out | apply below_alloc | apply pw_below_drewN | apply below_drew1 | refine below_set ?_ GE159.out) | exact HB.out)))); (case aL => have := LMc16.out; omega); intro v172 w27 ho hb hg hat; rw [← Ny171.out] at ho; have n0_ := am (Kd.V_afterv (ok := (fun k_ => (P0_ k_ ∨ w.heap.size ≤ k_) ∧ k_ ≠ gb159)) (by (with_reducible repeat (first | apply Kd.V_alloc | apply Kd.V_drewN | apply Kd.V_drew)); exact HO_0.out) hg hat); have n1_ := am (blk_grown (g := gb159) (o := .cells #[.int .i64 a1_0, .int .i64 a1_1, .int .i64 a1_2, .int .i64 a1_3, .int .i64 a1_4, .int .i64 a1_5, .int .i64 a1_6, .int .i64 a1_7, .int .i64 a1_8, .int .i64 a1_9, .bool a1_10, .string a1_11] 30 (0, 0)) (by (with_reducible repeat (first | refine blk_drewN ?_ _ | refine blk_drew ?_ | refine blk_alloc ?_ _)); exact BK159.out) hg (Kd.R_away HO165.out (fun _ hk => hk.2))); have n2_ := am (Kd.V_afterv (ok := (fun k_ => (P0_ k_ ∨ w.heap.size ≤ k_) ∧ k_ ≠ gb159)) (by (with_reducible repeat (first | apply Kd.V_alloc | apply Kd.V_drewN | apply Kd.V_drew)); exact HO170.out) hg hat); have n3_ := am (hb); have n4_ := am (ho); clear HO_0; clear BK159; clear HO170; clear HB; clear HO165; have HO_0 := n0_; have BK159 := n1_; have HO170 := n2_; have HB := n3_; have HO173 := n4_; clear n0_ n1_ n2_ n3_ n4_; clear ho hb hg hat; have hcz28_0 : w27.cell? ⟨gb159, 0, none⟩ = some (.int .i64 a1_0) := (blk_cell BK159.out 0).trans rfl; have hcz28_1 : w27.cell? ⟨gb159, 1, none⟩ = some (.int .i64 a1_1) := (blk_cell BK159.out 1).trans rfl; have hcz28_2 : w27.cell? ⟨gb159, 2, none⟩ = some (.int .i64 a1_2) := (blk_cell BK159.out 2).trans rfl; have hcz28_3 : w27.cell? ⟨gb159, 3, none⟩ = some (.int .i64 a1_3) := (blk_cell BK159.out 3).trans rfl; have hcz28_4 : w27.cell? ⟨gb159, 4, none⟩ = some (.int .i64 a1_4) := (blk_cell BK159.out 4).trans rfl; have hcz28_5 : w27.cell? ⟨gb159, 5, none⟩ = some (.int .i64 a1_5) := (blk_cell BK159.out 5).trans rfl; have hcz28_6 : w27.cell? ⟨gb159, 6, none⟩ = some (.int .i64 a1_6) := (blk_cell BK159.out 6).trans rfl; have hcz28_7 : w27.cell? ⟨gb159, 7, none⟩ = some (.int .i64 a1_7) := (blk_cell BK159.out 7).trans rfl; have hcz28_8 : w27.cell? ⟨gb159, 8, none⟩ = some (.int .i64 a1_8) := (blk_cell BK159.out 8).trans rfl; have hcz28_9 : w27.cell? ⟨gb159, 9, none⟩ = some (.int .i64 a1_9) := (blk_cell BK159.out 9).trans rfl; have hcz28_10 : w27.cell? ⟨gb159, 10, none⟩ = some (.bool a1_10) := (blk_cell BK159.out 10).trans rfl; have hcz28_11 : w27.cell? ⟨gb159, 11, none⟩ = some (.string a1_11) := (blk_cell BK159.out 11).trans rfl; have hfz28_0 := blk_frozen BK159.out 0; have hfz28_1 := blk_frozen BK159.out 1; have hfz28_2 := blk_frozen BK159.out 2; have hfz28_3 := blk_frozen BK159.out 3; have hfz28_4 := blk_frozen BK159.out 4; have hfz28_5 := blk_frozen BK159.out 5; have hfz28_6 := blk_frozen BK159.out 6; have hfz28_7 := blk_frozen BK159.out 7; have hfz28_8 := blk_frozen BK159.out 8; have hfz28_9 := blk_frozen BK159.out 9; have hfz28_10 := blk_frozen BK159.out 10; have hfz28_11 := blk_frozen BK159.out 11) | ((with_reducible refine gate_builtin (b := .append) (xs := #[.tmp 43, .tmp 45]) rfl ?_); at_builtin; refine Kd.R_append k30 (w0 := w) w.heap.size rfl (.tmp 43) (.tmp 45) 36 30 (.agg #[(.int .i64 0), (.int .i64 0), (.int .i64 0), (.int .i64 0), (.int .i64 0), (.int .i64 0), (.int .i64 0), (.int .i64 0), (.int .i64 0), (.int .i64 0), (.bool false), (.string ⟨#[]⟩)]) 104 rfl Try.underlying36 info30 rfl (by decide) (by omega) v172 y171 (⟨(⟨a1_0, a1_1⟩ : S28), a1_2, (⟨a1_3, a1_4⟩ : S28), (⟨a1_5, a1_6⟩ : S28), (⟨a1_7, a1_8⟩ : S28), a1_9, a1_10, a1_11⟩ : S30) [.int .i64 a1_0, .int .i64 a1_1, .int .i64 a1_2, .int .i64 a1_3, .int .i64 a1_4, .int .i64 a1_5, .int .i64 a1_6, .int .i64 a1_7, .int .i64 a1_8, .int .i64 a1_9, .bool a1_10, .string a1_11] (fun k_ => (w.heap.size ≤ k_) ∧ k_ ≠ gb159) (fun _ => False) rfl rfl ?aP (fun _ hk => hk.elim) ?aF ?aO ?aB ?aS ?aL ?_; (case aP => exact k30_mkM _ _ _ (⟨(⟨a1_0, a1_1⟩ : S28), a1_2, (⟨a1_3, a1_4⟩ : S28), (⟨a1_5, a1_6⟩ : S28), (⟨a1_7, a1_8⟩ : S28), a1_9, a1_10, a1_11⟩ : S30)); (case aB => exact (by repeat (first | (with_reducible first | exact HB.out | apply below_alloc | apply pw_below_drewN | apply below_drew1 | refine below_set ?_ GE159.out) | exact HB.out))); (case aF => exact (fun k_ hk => ⟨(Nat.le_trans (below_size (by repeat (first | (with_reducible first | exact HB.out | apply below_alloc | apply pw_below_drewN | apply below_drew1 | refine below_set ?_ GE159.out) | exact HB.out))) hk), Kd.freshB (g := gb159) (o := .cells #[.int .i64 a1_0, .int .i64 a1_1, .int .i64 a1_2, .int .i64 a1_3, .int .i64 a1_4, .int .i64 a1_5, .int .i64 a1_6, .int .i64 a1_7, .int .i64 a1_8, .int .i64 a1_9, .bool a1_10, .string a1_11] 30 (0, 0)) (by (with_reducible repeat (first | refine blk_drewN ?_ _ | refine blk_drew ?_ | refine blk_alloc ?_ _)); exact BK159.out) k_ hk⟩)); (case aO => exact (by (with_reducible repeat (first | apply Kd.R_alloc | apply Kd.R_drewN | apply Kd.R_drew)); exact HO173.out)); (case aS => exact (below_size (by repeat (first | (with_reducible first | exact HB.out | apply below_alloc | apply pw_below_drewN | apply below_drew1 | refine below_set ?_ GE159.out) | exact HB.out)))); (case aL => have := LMc17.out; omega); intro v175 w29 ho hb hg hat; rw [← Ny174.out] at ho; have n0_ := am (Kd.V_afterv (ok := (fun k_ => (P0_ k_ ∨ w.heap.size ≤ k_) ∧ k_ ≠ gb159)) (by (with_reducible repeat (first | apply Kd.V_alloc | apply Kd.V_drewN | apply Kd.V_drew)); exact HO_0.out) hg hat); have n1_ := am (blk_grown (g := gb159) (o := .cells #[.int .i64 a1_0, .int .i64 a1_1, .int .i64 a1_2, .int .i64 a1_3, .int .i64 a1_4, .int .i64 a1_5, .int .i64 a1_6, .int .i64 a1_7, .int .i64 a1_8, .int .i64 a1_9, .bool a1_10, .string a1_11] 30 (0, 0)) (by (with_reducible repeat (first | refine blk_drewN ?_ _ | refine blk_drew ?_ | refine blk_alloc ?_ _)); exact BK159.out) hg (Kd.R_away HO173.out (fun _ hk => hk.2))); have n2_ := am (Kd.V_afterv (ok := (fun k_ => (P0_ k_ ∨ w.heap.size ≤ k_) ∧ k_ ≠ gb159)) (by (with_reducible repeat (first | apply Kd.V_alloc | apply Kd.V_drewN | apply Kd.V_drew)); exact HO170.out) hg hat); have n3_ := am (hb); have n4_ := am (ho); clear HO_0; clear BK159; clear HO170; clear HB; clear HO173; have HO_0 := n0_; have BK159 := n1_; have HO170 := n2_; have HB := n3_; have HO176 := n4_; clear n0_ n1_ n2_ n3_ n4_; clear ho hb hg hat; have q30 : (x5_1 : Int) ≤ ((l0.length : Int) : Int) := of_decide_eq_true (by first | (with_reducible assumption) | assumption); obtain ⟨i030, hi030, _, hsz30, _⟩ := info_parts info30; have hroom30 : l0.length ≤ c0 := (Kd.V_reads' HO_0.out).2.1; have hC30 : Kd.F k30 _ _ (some ad160) l0.length l0 := (Kd.V_at (base := w.heap.size) HO_0.out).2.2; have q030 : (0 : Int) ≤ (x5_1 : Int) := of_decide_eq_true (by first | (with_reducible assumption) | assumption); have hcut30 := cut_from (P := Try.prog) 36 30 .i64 Try.underlying36 hi030 12 hsz30 (some ad160) l0.length c0 x5_1 q030 q30; have hr30 := Kd.F_cut (m := (x5_1 : Int).toNat) (c := c0) hC30 (by omega) hroom30; obtain ⟨A30, hA30⟩ : ∃ A1, A1 = (if c0 = (x5_1 : Int).toNat then (some ad160) else ((some ad160) : Option Addr).map (·.add ((x5_1 : Int).toNat * 12))) := ⟨_, rfl⟩; obtain ⟨c30, hc30⟩ : ∃ c1, c1 = c0 - (x5_1 : Int).toNat := ⟨_, rfl⟩; have hy30 : y177.length = l0.length - (x5_1 : Int).toNat := (by rw [Ny177.out, List.length_drop] <;> omega); rw [show (l0).drop (x5_1 : Int).toNat = y177 from Ny177.out.symm] at hr30; replace hr30 : Kd.F k30 _ _ A30 y177.length y177 := (by rw [hA30]; exact hr30); rw [← hy30, ← hA30, ← hc30] at hcut30; have HO181 := am (show Kd.V k30 30 _ w.heap.size _ (.slice A30 y177.length c30) y177 from Kd.V_mk (by rw [hy30, hc30]; exact Nat.sub_le_sub_right hroom30 _) hr30); have HC181 := am (show y177.length ≤ c30 from by rw [hy30, hc30]; exact Nat.sub_le_sub_right hroom30 _); clear hr30 hC30 hroom30 hi030 hsz30 hc30; have KY30 := am hy30; have KA30 := am hA30; clear hy30 hA30; replace q30 := eq_true q30) | ((with_reducible refine gate_builtin (b := .append) (xs := #[.tmp 47, .tmp 50]) rfl ?_); at_builtin; refine Kd.R_append_rows k30 (w0 := w) w.heap.size rfl (.tmp 47) (.tmp 50) 36 30 (.agg #[(.int .i64 0), (.int .i64 0), (.int .i64 0), (.int .i64 0), (.int .i64 0), (.int .i64 0), (.int .i64 0), (.int .i64 0), (.int .i64 0), (.int .i64 0), (.bool false), (.string ⟨#[]⟩)]) 104 rfl Try.underlying36 info30 rfl (by decide) (by omega) v175 y174 y177 _ _ _ (fun k_ => (w.heap.size ≤ k_) ∧ k_ ≠ gb159) (fun _ => False) rfl rfl ?aO ?aR (fun _ _ h => h) (fun _ h => h.elim) ?aF ?aB ?aS ?aL ?_; (case aR => repeat (first | exact (Kd.V_reads' HO181.out).2.2 | (with_reducible refine Kd.C_alloc ?_ _) | (with_reducible refine Kd.C_drewN ?_ _) | (with_reducible refine Kd.C_drew ?_))); (case aB => exact (by repeat (first | (with_reducible first | exact HB.out | apply below_alloc | apply pw_below_drewN | apply below_drew1 | refine below_set ?_ GE159.out) | exact HB.out))); (case aF => exact (fun k_ hk => ⟨(Nat.le_trans (below_size (by repeat (first | (with_reducible first | exact HB.out | apply below_alloc | apply pw_below_drewN | apply below_drew1 | refine below_set ?_ GE159.out) | exact HB.out))) hk), Kd.freshB (g := gb159) (o := .cells #[.int .i64 a1_0, .int .i64 a1_1, .int .i64 a1_2, .int .i64 a1_3, .int .i64 a1_4, .int .i64 a1_5, .int .i64 a1_6, .int .i64 a1_7, .int .i64 a1_8, .int .i64 a1_9, .bool a1_10, .string a1_11] 30 (0, 0)) (by (with_reducible repeat (first | refine blk_drewN ?_ _ | refine blk_drew ?_ | refine blk_alloc ?_ _)); exact BK159.out) k_ hk⟩)); (case aO => exact (by (with_reducible repeat (first | apply Kd.R_alloc | apply Kd.R_drewN | apply Kd.R_drew)); exact HO176.out)); (case aS => exact (below_size (by repeat (first | (with_reducible first | exact HB.out | apply below_alloc | apply pw_below_drewN | apply below_drew1 | refine below_set ?_ GE159.out) | exact HB.out)))); (case aL => have := LMc20.out; omega); intro v183 w31 ho hb hg hat; rw [← Ny182.out] at ho; have n0_ := am (Kd.V_afterv (ok := (fun k_ => (P0_ k_ ∨ w.heap.size ≤ k_) ∧ k_ ≠ gb159)) (by (with_reducible repeat (first | apply Kd.V_alloc | apply Kd.V_drewN | apply Kd.V_drew)); exact HO_0.out) hg hat); have n1_ := am (blk_grown (g := gb159) (o := .cells #[.int .i64 a1_0, .int .i64 a1_1, .int .i64 a1_2, .int .i64 a1_3, .int .i64 a1_4, .int .i64 a1_5, .int .i64 a1_6, .int .i64 a1_7, .int .i64 a1_8, .int .i64 a1_9, .bool a1_10, .string a1_11] 30 (0, 0)) (by (with_reducible repeat (first | refine blk_drewN ?_ _ | refine blk_drew ?_ | refine blk_alloc ?_ _)); exact BK159.out) hg (Kd.R_away HO176.out (fun _ hk => hk.2))); have n2_ := am (Kd.V_afterv (ok := (fun k_ => (P0_ k_ ∨ w.heap.size ≤ k_) ∧ k_ ≠ gb159)) (by (with_reducible repeat (first | apply Kd.V_alloc | apply Kd.V_drewN | apply Kd.V_drew)); exact HO170.out) hg hat); have n3_ := am (Kd.V_afterv (ok := (fun k_ => (P0_ k_ ∨ w.heap.size ≤ k_) ∧ k_ ≠ gb159)) (by (with_reducible repeat (first | apply Kd.V_alloc | apply Kd.V_drewN | apply Kd.V_drew)); exact HO181.out) hg hat); have n4_ := am (hb); have n5_ := am (ho); clear HO_0; clear BK159; clear HO170; clear HO181; clear HB; clear HO176; have HO_0 := n0_; have BK159 := n1_; have HO170 := n2_; have HO181 := n3_; have HB := n4_; have HO184 := n5_; clear n0_ n1_ n2_ n3_ n4_ n5_; clear ho hb hg hat))
           go_ret
           exact ⟨_, by first | rfl | (simp [errW_none, errW_some] <;> rfl) | (simp [*, errW_none, errW_some] <;> rfl), Kd.V_mono (Kd.R_V (by (with_reducible repeat (first | apply Kd.R_alloc | apply Kd.R_drewN | apply Kd.R_drew)); exact Kd.R_mono HO184.out (fun _ hk => hk.1))) (fun k_ hk => by first | exact ⟨(.inr (hk.1)), hk.2⟩ | exact (.inr (hk))), by repeat (first | (with_reducible first | exact HB.out | apply below_alloc | apply pw_below_drewN | apply below_drew1 | refine below_set ?_ GE159.out) | exact HB.out)⟩
          ·rw [if_neg c20] at H
           exact absurd H (by simp)
         ·rw [if_neg c17] at H
          exact absurd H (by simp)
        ·rw [if_neg c16] at H
         exact absurd H (by simp)
       ·rw [if_neg c15] at H
        exact absurd H (by simp)
    ·rw [if_neg c5] at H
     exact absurd H (by simp)
   ·rw [if_neg c4] at H
    have c4b0 : decide (x5_1 < (l0.length : Int)) = false := decide_eq_false c4
    clear c4
    obtain ⟨y185, hy185⟩ : ∃ y_ : List (S30), y_ = (([] : List (S30))) := ⟨_, rfl⟩
    replace H : (if 0 ≤ x5_1 then (if x5_1 ≤ (l0.length : Int) then ((some (l0.take (x5_1 : Int).toNat : List (S30))).bind fun y188 => (if y185.length + y188.length < 1353245080339 then ((some (y185 ++ y188 : List (S30))).bind fun y193 => (if y193.length < 1353245080339 then ((some (y193 ++ [(⟨(⟨a1_0, a1_1⟩ : S28), a1_2, (⟨a1_3, a1_4⟩ : S28), (⟨a1_5, a1_6⟩ : S28), (⟨a1_7, a1_8⟩ : S28), a1_9, a1_10, a1_11⟩ : S30)] : List (S30))).bind fun y196 => ((some (l0.drop (x5_1 : Int).toNat : List (S30))).bind fun y199 => (if y196.length + y199.length < 1353245080339 then (some (y196 ++ y199)) else (none)))) else (none))) else (none))) else (none)) else (none)) = some r := by first | (rw [hy185]; with_reducible exact H) | (have H2_ := (Option.bind_some _ _).symm.trans H; rw [hy185]; with_reducible exact H2_) | (have H2_ := (Option.bind_some _ _).symm.trans H; with_reducible exact H2_) | with_reducible exact H | (rw [hy185]; exact H) | exact H
    have Ny185 := am hy185
    clear hy185
    by_cases c32 : 0 ≤ x5_1
    ·rw [if_pos c32] at H
     have c32b0 := eq_true c32
     have c32b1 : decide (0 ≤ x5_1) = true := decide_eq_true c32
     clear c32
     by_cases c33 : x5_1 ≤ (l0.length : Int)
     ·rw [if_pos c33] at H
      have c33b0 := eq_true c33
      have c33b1 : decide (x5_1 ≤ (l0.length : Int)) = true := decide_eq_true c33
      clear c33
      obtain ⟨y188, hy188⟩ : ∃ y_ : List (S30), y_ = (l0.take (x5_1 : Int).toNat) := ⟨_, rfl⟩
      replace H : (if y185.length + y188.length < 1353245080339 then ((some (y185 ++ y188 : List (S30))).bind fun y193 => (if y193.length < 1353245080339 then ((some (y193 ++ [(⟨(⟨a1_0, a1_1⟩ : S28), a1_2, (⟨a1_3, a1_4⟩ : S28), (⟨a1_5, a1_6⟩ : S28), (⟨a1_7, a1_8⟩ : S28), a1_9, a1_10, a1_11⟩ : S30)] : List (S30))).bind fun y196 => ((some (l0.drop (x5_1 : Int).toNat : List (S30))).bind fun y199 => (if y196.length + y199.length < 1353245080339 then (some (y196 ++ y199)) else (none)))) else (none))) else (none)) = some r := by first | (rw [hy188]; with_reducible exact H) | (have H2_ := (Option.bind_some _ _).symm.trans H; rw [hy188]; with_reducible exact H2_) | (have H2_ := (Option.bind_some _ _).symm.trans H; with_reducible exact H2_) | with_reducible exact H | (rw [hy188]; exact H) | exact H
      have Ny188 := am hy188
      clear hy188
      by_cases c34 : y185.length + y188.length < 1353245080339
      ·rw [if_pos c34] at H
       have LMc34 := am c34
       clear c34
       obtain ⟨y193, hy193⟩ : ∃ y_ : List (S30), y_ = (y185 ++ y188) := ⟨_, rfl⟩
       replace H : (if y193.length < 1353245080339 then ((some (y193 ++ [(⟨(⟨a1_0, a1_1⟩ : S28), a1_2, (⟨a1_3, a1_4⟩ : S28), (⟨a1_5, a1_6⟩ : S28), (⟨a1_7, a1_8⟩ : S28), a1_9, a1_10, a1_11⟩ : S30)] : List (S30))).bind fun y196 => ((some (l0.drop (x5_1 : Int).toNat : List (S30))).bind fun y199 => (if y196.length + y199.length < 1353245080339 then (some (y196 ++ y199)) else (none)))) else (none)) = some r := by first | (rw [hy193]; with_reducible exact H) | (have H2_ := (Option.bind_some _ _).symm.trans H; rw [hy193]; with_reducible exact H2_) | (have H2_ := (Option.bind_some _ _).symm.trans H; with_reducible exact H2_) | with_reducible exact H | (rw [hy193]; exact H) | exact H
       have Ny193 := am hy193
       clear hy193
       by_cases c35 : y193.length < 1353245080339
       ·rw [if_pos c35] at H
        have LMc35 := am c35
        clear c35
        obtain ⟨y196, hy196⟩ : ∃ y_ : List (S30), y_ = (y193 ++ [(⟨(⟨a1_0, a1_1⟩ : S28), a1_2, (⟨a1_3, a1_4⟩ : S28), (⟨a1_5, a1_6⟩ : S28), (⟨a1_7, a1_8⟩ : S28), a1_9, a1_10, a1_11⟩ : S30)]) := ⟨_, rfl⟩
        replace H : ((some (l0.drop (x5_1 : Int).toNat : List (S30))).bind fun y199 => (if y196.length + y199.length < 1353245080339 then (some (y196 ++ y199)) else (none))) = some r := by first | (rw [hy196]; with_reducible exact H) | (have H2_ := (Option.bind_some _ _).symm.trans H; rw [hy196]; with_reducible exact H2_) | (have H2_ := (Option.bind_some _ _).symm.trans H; with_reducible exact H2_) | with_reducible exact H | (rw [hy196]; exact H) | exact H
        have Ny196 := am hy196
        clear hy196
        have c36b0 := eq_true (of_decide_eq_true (by first | (with_reducible assumption) | assumption) : 0 ≤ x5_1)
        have c37b0 := eq_true (of_decide_eq_true (by first | (with_reducible assumption) | assumption) : x5_1 ≤ (l0.length : Int))
        obtain ⟨y199, hy199⟩ : ∃ y_ : List (S30), y_ = (l0.drop (x5_1 : Int).toNat) := ⟨_, rfl⟩
        replace H : (if y196.length + y199.length < 1353245080339 then (some (y196 ++ y199)) else (none)) = some r := by first | (rw [hy199]; with_reducible exact H) | (have H2_ := (Option.bind_some _ _).symm.trans H; rw [hy199]; with_reducible exact H2_) | (have H2_ := (Option.bind_some _ _).symm.trans H; with_reducible exact H2_) | with_reducible exact H | (rw [hy199]; exact H) | exact H
        have Ny199 := am hy199
        clear hy199
        by_cases c38 : y196.length + y199.length < 1353245080339
        ·rw [if_pos c38] at H
         have LMc38 := am c38
         clear c38
         obtain ⟨y204, hy204⟩ : ∃ y_ : List (S30), y_ = (y196 ++ y199) := ⟨_, rfl⟩
         replace H : (some y204) = some r := by first | (rw [hy204]; with_reducible exact H) | (have H2_ := (Option.bind_some _ _).symm.trans H; rw [hy204]; with_reducible exact H2_) | (have H2_ := (Option.bind_some _ _).symm.trans H; with_reducible exact H2_) | with_reducible exact H | (rw [hy204]; exact H) | exact H
         have Ny204 := am hy204
         clear hy204
         obtain rfl := Option.some.inj H
         try go_wp2
         have n0_ := am (Kd.V_drew HO_0.out)
         have n1_ := am (blk_drew BK159.out)
         have n2_ := am (below_drew1 HB.out)
         clear HO_0
         clear BK159
         clear HB
         have HO_0 := n0_
         have BK159 := n1_
         have HB := n2_
         clear n0_ n1_ n2_
         refine start_ (n := 14) (S := fun w' => True) (ds := []) qx14_0 (by kernel_rfl) rfl rfl trivial (fun hHeld => ?_); refine with_tabW spec_insertOp.tab2 spec_insertOp.bits2 (fun HT_ HW_ => ?_)
         generalize wr.drew = w39 at HO_0 BK159 HB hHeld ⊢
         refine pure_ (i := 0) (N := some 7) (v := ?_) (a' := ?_) qx14_1 rfl rfl (any_of HT_.out (by kernel_rfl)) (fun _ _ _ h => h) (Or.inl ⟨by rfl, ?_⟩) ?_ ?_
         rotate_left
         ·intro w'
          go_simp
          with_reducible rfl
         rotate_left
         ·simp only [putS]
          rfl
         refine pure_ (i := 1) (N := some 8) (v := ?_) (a' := ?_) qx14_2 rfl rfl (any_of HT_.out (by kernel_rfl)) (fun _ _ _ h => h) (Or.inl ⟨by rfl, ?_⟩) ?_ ?_
         rotate_left
         ·intro w'
          go_simp
          with_reducible rfl
         rotate_left
         ·simp only [putS]
          rfl
         refine pure_ (i := 2) (N := some 9) (v := ?_) (a' := ?_) qx14_3 rfl rfl (any_of HT_.out (by kernel_rfl)) (fun _ _ _ h => h) (Or.inl ⟨by rfl, ?_⟩) ?_ ?_
         rotate_left
         ·intro w'
          go_simp
          with_reducible rfl
         rotate_left
         ·simp only [putS]
          rfl
         refine pure_ (i := 3) (N := some 10) (v := ?_) (a' := ?_) qx14_4 rfl rfl (any_of HT_.out (by kernel_rfl)) (fun _ _ _ h => h) (Or.inl ⟨by rfl, ?_⟩) ?_ ?_
         rotate_left
         ·intro w'
          go_simp
          with_reducible rfl
         rotate_left
         ·simp only [putS]
          rfl
         refine pure_ (i := 4) (N := some 11) (v := ?_) (a' := ?_) qx14_5 rfl rfl (any_of HT_.out (by kernel_rfl)) (fun _ _ _ h => h) (Or.inl ⟨by rfl, ?_⟩) ?_ ?_
         rotate_left
         ·intro w'
          go_simp
          with_reducible rfl
         rotate_left
         ·simp only [putS]
          rfl
         refine pure_ (i := 5) (N := some 12) (v := undef) (a' := ?_) qx14_6 rfl rfl (any_of HT_.out (by kernel_rfl)) (fun _ _ _ h => h) (Or.inr ⟨by rfl, rfl⟩) ?_ ?_
         rotate_left
         ·simp only [putS]
          rfl
         refine pure_ (i := 6) (N := some 13) (v := undef) (a' := ?_) qx14_7 rfl rfl (any_of HT_.out (by kernel_rfl)) (fun _ _ _ h => h) (Or.inr ⟨by rfl, rfl⟩) ?_ ?_
         rotate_left
         ·simp only [putS]
          rfl
         refine pure_ (i := 7) (N := some 14) (v := undef) (a' := ?_) qx14_8 rfl rfl (any_of HT_.out (by kernel_rfl)) (fun _ _ _ h => h) (Or.inr ⟨by rfl, rfl⟩) ?_ ?_
         rotate_left
         ·simp only [putS]
          rfl
         refine pure_ (i := 8) (N := some 15) (v := undef) (a' := ?_) qx14_9 rfl rfl (any_of HT_.out (by kernel_rfl)) (fun _ _ _ h => h) (Or.inr ⟨by rfl, rfl⟩) ?_ ?_
         rotate_left
         ·simp only [putS]
          rfl
         refine pure_ (i := 9) (N := some 16) (v := undef) (a' := ?_) qx14_15 rfl rfl (any_of HT_.out (by kernel_rfl)) (fun _ _ _ h => h) (Or.inr ⟨by rfl, rfl⟩) ?_ ?_
         rotate_left
         ·simp only [putS]
          rfl
         refine pure_ (i := 10) (N := some 17) (v := undef) (a' := ?_) qx14_10 rfl rfl (any_of HT_.out (by kernel_rfl)) (fun _ _ _ h => h) (Or.inr ⟨by rfl, rfl⟩) ?_ ?_
         rotate_left
         ·simp only [putS]
          rfl
         refine pure_ (i := 11) (N := some 18) (v := undef) (a' := ?_) qx14_11 rfl rfl (any_of HT_.out (by kernel_rfl)) (fun _ _ _ h => h) (Or.inr ⟨by rfl, rfl⟩) ?_ ?_
         rotate_left
         ·simp only [putS]
          rfl
         refine pure_ (i := 12) (N := some 19) (v := undef) (a' := ?_) qx14_12 rfl rfl (any_of HT_.out (by kernel_rfl)) (fun _ _ _ h => h) (Or.inr ⟨by rfl, rfl⟩) ?_ ?_
         rotate_left
         ·simp only [putS]
          rfl
         refine pure_ (i := 13) (N := some 20) (v := ?_) (a' := ?_) qx14_13 rfl rfl (any_of HT_.out (by kernel_rfl)) (fun _ _ _ h => h) (Or.inl ⟨by rfl, ?_⟩) ?_ ?_
         rotate_left
         ·intro w'
          go_simp
          with_reducible rfl
         rotate_left
         ·simp only [putS]
          rfl
         refine done_ (done_of HT_.out (by kernel_rfl)) ?_
         try go_wp2
         have n0_ := am (Kd.V_drew HO_0.out)
         have n1_ := am (blk_drew BK159.out)
         have n2_ := am (below_drew1 HB.out)
         clear HO_0
         clear BK159
         clear HB
         have HO_0 := n0_
         have BK159 := n1_
         have HB := n2_
         clear n0_ n1_ n2_
         refine start_ (n := 14) (S := fun w' => True) (ds := []) qx14_0 (by kernel_rfl) rfl rfl trivial (fun hHeld => ?_); refine with_tabW spec_insertOp.tab4 spec_insertOp.bits4 (fun HT_ HW_ => ?_)
         generalize w39.drew = w40 at HO_0 BK159 HB hHeld ⊢
         refine pure_ (i := 0) (N := some 23) (v := ?_) (a' := ?_) qx14_1 rfl rfl (any_of HT_.out (by kernel_rfl)) (fun _ _ _ h => h) (Or.inl ⟨by rfl, ?_⟩) ?_ ?_
         rotate_left
         ·intro w'
          go_simp
          with_reducible rfl
         rotate_left
         ·simp only [putS]
          rfl
         refine pure_ (i := 1) (N := some 24) (v := ?_) (a' := ?_) qx14_2 rfl rfl (any_of HT_.out (by kernel_rfl)) (fun _ _ _ h => h) (Or.inl ⟨by rfl, ?_⟩) ?_ ?_
         rotate_left
         ·intro w'
          go_simp
          with_reducible rfl
         rotate_left
         ·simp only [putS]
          rfl
         refine pure_ (i := 2) (N := some 25) (v := ?_) (a' := ?_) qx14_3 rfl rfl (any_of HT_.out (by kernel_rfl)) (fun _ _ _ h => h) (Or.inl ⟨by rfl, ?_⟩) ?_ ?_
         rotate_left
         ·intro w'
          go_simp
          with_reducible rfl
         rotate_left
         ·simp only [putS]
          rfl
         refine pure_ (i := 3) (N := some 26) (v := ?_) (a' := ?_) qx14_4 rfl rfl (any_of HT_.out (by kernel_rfl)) (fun _ _ _ h => h) (Or.inl ⟨by rfl, ?_⟩) ?_ ?_
         rotate_left
         ·intro w'
          go_simp
          with_reducible rfl
         rotate_left
         ·simp only [putS]
          rfl
         refine pure_ (i := 4) (N := some 27) (v := ?_) (a' := ?_) qx14_5 rfl rfl (any_of HT_.out (by kernel_rfl)) (fun _ _ _ h => h) (Or.inl ⟨by rfl, ?_⟩) ?_ ?_
         rotate_left
         ·intro w'
          go_simp
          with_reducible rfl
         rotate_left
         ·simp only [putS]
          rfl
         refine pure_ (i := 5) (N := some 28) (v := undef) (a' := ?_) qx14_6 rfl rfl (any_of HT_.out (by kernel_rfl)) (fun _ _ _ h => h) (Or.inr ⟨by rfl, rfl⟩) ?_ ?_
         rotate_left
         ·simp only [putS]
          rfl
         refine pure_ (i := 6) (N := some 29) (v := undef) (a' := ?_) qx14_7 rfl rfl (any_of HT_.out (by kernel_rfl)) (fun _ _ _ h => h) (Or.inr ⟨by rfl, rfl⟩) ?_ ?_
         rotate_left
         ·simp only [putS]
          rfl
         refine pure_ (i := 7) (N := some 30) (v := undef) (a' := ?_) qx14_8 rfl rfl (any_of HT_.out (by kernel_rfl)) (fun _ _ _ h => h) (Or.inr ⟨by rfl, rfl⟩) ?_ ?_
         rotate_left
         ·simp only [putS]
          rfl
         refine pure_ (i := 8) (N := some 31) (v := undef) (a' := ?_) qx14_9 rfl rfl (any_of HT_.out (by kernel_rfl)) (fun _ _ _ h => h) (Or.inr ⟨by rfl, rfl⟩) ?_ ?_
         rotate_left
         ·simp only [putS]
          rfl
         refine pure_ (i := 9) (N := some 32) (v := undef) (a' := ?_) qx14_15 rfl rfl (any_of HT_.out (by kernel_rfl)) (fun _ _ _ h => h) (Or.inr ⟨by rfl, rfl⟩) ?_ ?_
         rotate_left
         ·simp only [putS]
          rfl
         refine pure_ (i := 10) (N := some 33) (v := undef) (a' := ?_) qx14_10 rfl rfl (any_of HT_.out (by kernel_rfl)) (fun _ _ _ h => h) (Or.inr ⟨by rfl, rfl⟩) ?_ ?_
         rotate_left
         ·simp only [putS]
          rfl
         refine pure_ (i := 11) (N := some 34) (v := undef) (a' := ?_) qx14_11 rfl rfl (any_of HT_.out (by kernel_rfl)) (fun _ _ _ h => h) (Or.inr ⟨by rfl, rfl⟩) ?_ ?_
         rotate_left
         ·simp only [putS]
          rfl
         refine pure_ (i := 12) (N := some 35) (v := undef) (a' := ?_) qx14_12 rfl rfl (any_of HT_.out (by kernel_rfl)) (fun _ _ _ h => h) (Or.inr ⟨by rfl, rfl⟩) ?_ ?_
         rotate_left
         ·simp only [putS]
          rfl
         refine pure_ (i := 13) (N := some 36) (v := ?_) (a' := ?_) qx14_13 rfl rfl (any_of HT_.out (by kernel_rfl)) (fun _ _ _ h => h) (Or.inl ⟨by rfl, ?_⟩) ?_ ?_
         rotate_left
         ·intro w'
          go_simp
          with_reducible rfl
         rotate_left
         ·simp only [putS]
          rfl
         refine done_ (done_of HT_.out (by kernel_rfl)) ?_
         try go_wp2_with (first | ((with_reducible refine gate_dst (N := 38) rfl ?_); refine Kd.R_lit k30 _ 30 ?hg (N := 38) ?hd (xs := ([] : List (S30))) (inner := []) (ok := fun _ => True) (okp := fun _ => True) ?hr ?hp (fun _ hk => hk) trivial (Below.refl _ _) (Nat.le_refl _) (by simp) ?_; (case hd => rfl); (case hg => rfl); (case hr => first | (go_simp; done) | (go_simp; rfl)); (case hp => exact (Reps.none _ _)); intro v186 w41 ho42 hb hg_ hnew_; clear hg_ hnew_; (first | rw [← Ny185.out] at ho42 | (simp only [Int.reduceToNat] at ho42; rw [← Ny185.out] at ho42)); have n0_ := am (Kd.V_elder' (by (with_reducible repeat (first | apply Kd.V_alloc | apply Kd.V_drewN | apply Kd.V_drew)); exact HO_0.out) (Kd.R_base ho42) hb); have n1_ := am (Kd.R_lower (Kd.R_newB (Kd.R_newM (M := fun k_ => (w.heap.size ≤ k_)) ho42 (below_size (by repeat (first | (with_reducible first | exact HB.out | apply below_alloc | apply pw_below_drewN | apply below_drew1 | refine below_set ?_ GE159.out) | exact HB.out))) (fun k_ h_ => h_)) (g := gb159) (o := .cells #[.int .i64 a1_0, .int .i64 a1_1, .int .i64 a1_2, .int .i64 a1_3, .int .i64 a1_4, .int .i64 a1_5, .int .i64 a1_6, .int .i64 a1_7, .int .i64 a1_8, .int .i64 a1_9, .bool a1_10, .string a1_11] 30 (0, 0)) (by (with_reducible repeat (first | refine blk_drewN ?_ _ | refine blk_drew ?_ | refine blk_alloc ?_ _)); exact BK159.out)) (below_size (by repeat (first | (with_reducible first | exact HB.out | apply below_alloc | apply pw_below_drewN | apply below_drew1 | refine below_set ?_ GE159.out) | exact HB.out)))); have n2_ := am (blk_below (g := gb159) (o := .cells #[.int .i64 a1_0, .int .i64 a1_1, .int .i64 a1_2, .int .i64 a1_3, .int .i64 a1_4, .int .i64 a1_5, .int .i64 a1_6, .int .i64 a1_7, .int .i64 a1_8, .int .i64 a1_9, .bool a1_10, .string a1_11] 30 (0, 0)) (by (with_reducible repeat (first | refine blk_drewN ?_ _ | refine blk_drew ?_ | refine blk_alloc ?_ _)); exact BK159.out) hb); have n3_ := am (below_step (by repeat (first | (with_reducible first | exact HB.out | apply below_alloc | apply pw_below_drewN | apply below_drew1 | refine below_set ?_ GE159.out) | exact HB.out)) hb); clear HO_0; clear BK159; clear HB; have HO_0 := n0_; have HO187 := n1_; have BK159 := n2_; have HB := n3_; clear n0_ n1_ n2_ n3_; clear hb ho42; have q43 : (x5_1 : Int) ≤ ((l0.length : Int) : Int) := of_decide_eq_true (by first | (with_reducible assumption) | assumption); obtain ⟨i043, hi043, _, hsz43, _⟩ := info_parts info30; have hroom43 : l0.length ≤ c0 := (Kd.V_reads' HO_0.out).2.1; have hC43 : Kd.F k30 _ _ A0 l0.length l0 := (Kd.V_at (base := w.heap.size) HO_0.out).2.2; have hcut43 := cut_to (P := Try.prog) 36 30 .i64 Try.underlying36 hi043 A0 l0.length c0 x5_1 (of_decide_eq_true (by first | (with_reducible assumption) | assumption)) q43 hroom43; have hr43 := Kd.F_take (m := (x5_1 : Int).toNat) hC43 (by omega); have hy43 : y188.length = (x5_1 : Int).toNat := (by rw [Ny188.out, List.length_take]; omega); rw [← Ny188.out] at hr43; rw [← hy43] at hcut43; have HO192 := am (show Kd.V k30 30 _ w.heap.size _ (.slice A0 y188.length c0) y188 from Kd.V_mk (by omega) hr43); have HC192 := am (show y188.length ≤ c0 from by omega); clear hr43 hC43 hroom43 hi043 hsz43; have KY43 := am hy43; clear hy43; replace q43 := eq_true q43) | ((with_reducible refine gate_builtin (b := .append) (xs := #[.tmp 38, .tmp 41]) rfl ?_); at_builtin; refine Kd.R_append_rows k30 (w0 := w) w.heap.size rfl (.tmp 38) (.tmp 41) 36 30 (.agg #[(.int .i64 0), (.int .i64 0), (.int .i64 0), (.int .i64 0), (.int .i64 0), (.int .i64 0), (.int .i64 0), (.int .i64 0), (.int .i64 0), (.int .i64 0), (.bool false), (.string ⟨#[]⟩)]) 104 rfl Try.underlying36 info30 rfl (by decide) (by omega) v186 y185 y188 _ _ _ (fun k_ => (w.heap.size ≤ k_) ∧ k_ ≠ gb159) (fun _ => False) rfl rfl ?aO ?aR (fun _ _ h => h) (fun _ h => h.elim) ?aF ?aB ?aS ?aL ?_; (case aR => repeat (first | exact (Kd.V_reads' HO192.out).2.2 | (with_reducible refine Kd.C_alloc ?_ _) | (with_reducible refine Kd.C_drewN ?_ _) | (with_reducible refine Kd.C_drew ?_))); (case aB => exact (by repeat (first | (with_reducible first | exact HB.out | apply below_alloc | apply pw_below_drewN | apply below_drew1 | refine below_set ?_ GE159.out) | exact HB.out))); (case aF => exact (fun k_ hk => ⟨(Nat.le_trans (below_size (by repeat (first | (with_reducible first | exact HB.out | apply below_alloc | apply pw_below_drewN | apply below_drew1 | refine below_set ?_ GE159.out) | exact HB.out))) hk), Kd.freshB (g := gb159) (o := .cells #[.int .i64 a1_0, .int .i64 a1_1, .int .i64 a1_2, .int .i64 a1_3, .int .i64 a1_4, .int .i64 a1_5, .int .i64 a1_6, .int .i64 a1_7, .int .i64 a1_8, .int .i64 a1_9, .bool a1_10, .string a1_11] 30 (0, 0)) (by (with_reducible repeat (first | refine blk_drewN ?_ _ | refine blk_drew ?_ | refine blk_alloc ?_ _)); exact BK159.out) k_ hk⟩)); (case aO => exact (by (with_reducible repeat (first | apply Kd.R_alloc | apply Kd.R_drewN | apply Kd.R_drew)); exact Kd.R_mono HO187.out (fun _ hk => ⟨hk.1.1, hk.2⟩))); (case aS => exact (below_size (by repeat (first | (with_reducible first | exact HB.out | apply below_alloc | apply pw_below_drewN | apply below_drew1 | refine below_set ?_ GE159.out) | exact HB.out)))); (case aL => have := LMc34.out; omega); intro v194 w44 ho hb hg hat; rw [← Ny193.out] at ho; have n0_ := am (Kd.V_afterv (ok := (fun k_ => (P0_ k_ ∨ w.heap.size ≤ k_) ∧ k_ ≠ gb159)) (by (with_reducible repeat (first | apply Kd.V_alloc | apply Kd.V_drewN | apply Kd.V_drew)); exact HO_0.out) hg hat); have n1_ := am (blk_grown (g := gb159) (o := .cells #[.int .i64 a1_0, .int .i64 a1_1, .int .i64 a1_2, .int .i64 a1_3, .int .i64 a1_4, .int .i64 a1_5, .int .i64 a1_6, .int .i64 a1_7, .int .i64 a1_8, .int .i64 a1_9, .bool a1_10, .string a1_11] 30 (0, 0)) (by (with_reducible repeat (first | refine blk_drewN ?_ _ | refine blk_drew ?_ | refine blk_alloc ?_ _)); exact BK159.out) hg (Kd.R_away HO187.out (fun _ hk => hk.2))); have n2_ := am (Kd.V_afterv (ok := (fun k_ => (P0_ k_ ∨ w.heap.size ≤ k_) ∧ k_ ≠ gb159)) (by (with_reducible repeat (first | apply Kd.V_alloc | apply Kd.V_drewN | apply Kd.V_drew)); exact HO192.out) hg hat); have n3_ := am (hb); have n4_ := am (ho); clear HO_0; clear BK159; clear HO192; clear HB; clear HO187; have HO_0 := n0_; have BK159 := n1_; have HO192 := n2_; have HB := n3_; have HO195 := n4_; clear n0_ n1_ n2_ n3_ n4_; clear ho hb hg hat; have hcz45_0 : w44.cell? ⟨gb159, 0, none⟩ = some (.int .i64 a1_0) := (blk_cell BK159.out 0).trans rfl; have hcz45_1 : w44.cell? ⟨gb159, 1, none⟩ = some (.int .i64 a1_1) := (blk_cell BK159.out 1).trans rfl; have hcz45_2 : w44.cell? ⟨gb159, 2, none⟩ = some (.int .i64 a1_2) := (blk_cell BK159.out 2).trans rfl; have hcz45_3 : w44.cell? ⟨gb159, 3, none⟩ = some (.int .i64 a1_3) := (blk_cell BK159.out 3).trans rfl; have hcz45_4 : w44.cell? ⟨gb159, 4, none⟩ = some (.int .i64 a1_4) := (blk_cell BK159.out 4).trans rfl; have hcz45_5 : w44.cell? ⟨gb159, 5, none⟩ = some (.int .i64 a1_5) := (blk_cell BK159.out 5).trans rfl; have hcz45_6 : w44.cell? ⟨gb159, 6, none⟩ = some (.int .i64 a1_6) := (blk_cell BK159.out 6).trans rfl; have hcz45_7 : w44.cell? ⟨gb159, 7, none⟩ = some (.int .i64 a1_7) := (blk_cell BK159.out 7).trans rfl; have hcz45_8 : w44.cell? ⟨gb159, 8, none⟩ = some (.int .i64 a1_8) := (blk_cell BK159.out 8).trans rfl; have hcz45_9 : w44.cell? ⟨gb159, 9, none⟩ = some (.int .i64 a1_9) := (blk_cell BK159.out 9).trans rfl; have hcz45_10 : w44.cell? ⟨gb159, 10, none⟩ = some (.bool a1_10) := (blk_cell BK159.out 10).trans rfl; have hcz45_11 : w44.cell? ⟨gb159, 11, none⟩ = some (.string a1_11) := (blk_cell BK159.out 11).trans rfl; have hfz45_0 := blk_frozen BK159.out 0; have hfz45_1 := blk_frozen BK159.out 1; have hfz45_2 := blk_frozen BK159.out 2; have hfz45_3 := blk_frozen BK159.out 3; have hfz45_4 := blk_frozen BK159.out 4; have hfz45_5 := blk_frozen BK159.out 5; have hfz45_6 := blk_frozen BK159.out 6; have hfz45_7 := blk_frozen BK159.out 7; have hfz45_8 := blk_frozen BK159.out 8; have hfz45_9 := blk_frozen BK159.out 9; have hfz45_10 := blk_frozen BK159.out 10; have hfz45_11 := blk_frozen BK159.out 11) | ((with_reducible refine gate_builtin (b := .append) (xs := #[.tmp 43, .tmp 45]) rfl ?_); at_builtin; refine Kd.R_append k30 (w0 := w) w.heap.size rfl (.tmp 43) (.tmp 45) 36 30 (.agg #[(.int .i64 0), (.int .i64 0), (.int .i64 0), (.int .i64 0), (.int .i64 0), (.int .i64 0), (.int .i64 0), (.int .i64 0), (.int .i64 0), (.int .i64 0), (.bool false), (.string ⟨#[]⟩)]) 104 rfl Try.underlying36 info30 rfl (by decide) (by omega) v194 y193 (⟨(⟨a1_0, a1_1⟩ : S28), a1_2, (⟨a1_3, a1_4⟩ : S28), (⟨a1_5, a1_6⟩ : S28), (⟨a1_7, a1_8⟩ : S28), a1_9, a1_10, a1_11⟩ : S30) [.int .i64 a1_0, .int .i64 a1_1, .int .i64 a1_2, .int .i64 a1_3, .int .i64 a1_4, .int .i64 a1_5, .int .i64 a1_6, .int .i64 a1_7, .int .i64 a1_8, .int .i64 a1_9, .bool a1_10, .string a1_11] (fun k_ => (w.heap.size ≤ k_) ∧ k_ ≠ gb159) (fun _ => False) rfl rfl ?aP (fun _ hk => hk.elim) ?aF ?aO ?aB ?aS ?aL ?_; (case aP => exact k30_mkM _ _ _ (⟨(⟨a1_0, a1_1⟩ : S28), a1_2, (⟨a1_3, a1_4⟩ : S28), (⟨a1_5, a1_6⟩ : S28), (⟨a1_7, a1_8⟩ : S28), a1_9, a1_10, a1_11⟩ : S30)); (case aB => exact (by repeat (first | (with_reducible first | exact HB.out | apply below_alloc | apply pw_below_drewN | apply below_drew1 | refine below_set ?_ GE159.out) | exact HB.out))); (case aF => exact (fun k_ hk => ⟨(Nat.le_trans (below_size (by repeat (first | (with_reducible first | exact HB.out | apply below_alloc | apply pw_below_drewN | apply below_drew1 | refine below_set ?_ GE159.out) | exact HB.out))) hk), Kd.freshB (g := gb159) (o := .cells #[.int .i64 a1_0, .int .i64 a1_1, .int .i64 a1_2, .int .i64 a1_3, .int .i64 a1_4, .int .i64 a1_5, .int .i64 a1_6, .int .i64 a1_7, .int .i64 a1_8, .int .i64 a1_9, .bool a1_10, .string a1_11] 30 (0, 0)) (by (with_reducible repeat (first | refine blk_drewN ?_ _ | refine blk_drew ?_ | refine blk_alloc ?_ _)); exact BK159.out) k_ hk⟩)); (case aO => exact (by (with_reducible repeat (first | apply Kd.R_alloc | apply Kd.R_drewN | apply Kd.R_drew)); exact HO195.out)); (case aS => exact (below_size (by repeat (first | (with_reducible first | exact HB.out | apply below_alloc | apply pw_below_drewN | apply below_drew1 | refine below_set ?_ GE159.out) | exact HB.out)))); (case aL => have := LMc35.out; omega); intro v197 w46 ho hb hg hat; rw [← Ny196.out] at ho; have n0_ := am (Kd.V_afterv (ok := (fun k_ => (P0_ k_ ∨ w.heap.size ≤ k_) ∧ k_ ≠ gb159)) (by (with_reducible repeat (first | apply Kd.V_alloc | apply Kd.V_drewN | apply Kd.V_drew)); exact HO_0.out) hg hat); have n1_ := am (blk_grown (g := gb159) (o := .cells #[.int .i64 a1_0, .int .i64 a1_1, .int .i64 a1_2, .int .i64 a1_3, .int .i64 a1_4, .int .i64 a1_5, .int .i64 a1_6, .int .i64 a1_7, .int .i64 a1_8, .int .i64 a1_9, .bool a1_10, .string a1_11] 30 (0, 0)) (by (with_reducible repeat (first | refine blk_drewN ?_ _ | refine blk_drew ?_ | refine blk_alloc ?_ _)); exact BK159.out) hg (Kd.R_away HO195.out (fun _ hk => hk.2))); have n2_ := am (Kd.V_afterv (ok := (fun k_ => (P0_ k_ ∨ w.heap.size ≤ k_) ∧ k_ ≠ gb159)) (by (with_reducible repeat (first | apply Kd.V_alloc | apply Kd.V_drewN | apply Kd.V_drew)); exact HO192.out) hg hat); have n3_ := am (hb); have n4_ := am (ho); clear HO_0; clear BK159; clear HO192; clear HB; clear HO195; have HO_0 := n0_; have BK159 := n1_; have HO192 := n2_; have HB := n3_; have HO198 := n4_; clear n0_ n1_ n2_ n3_ n4_; clear ho hb hg hat; have q47 : (x5_1 : Int) ≤ ((l0.length : Int) : Int) := of_decide_eq_true (by first | (with_reducible assumption) | assumption); obtain ⟨i047, hi047, _, hsz47, _⟩ := info_parts info30; have hroom47 : l0.length ≤ c0 := (Kd.V_reads' HO_0.out).2.1; have hC47 : Kd.F k30 _ _ A0 l0.length l0 := (Kd.V_at (base := w.heap.size) HO_0.out).2.2; have q047 : (0 : Int) ≤ (x5_1 : Int) := of_decide_eq_true (by first | (with_reducible assumption) | assumption); have hcut47 := cut_from (P := Try.prog) 36 30 .i64 Try.underlying36 hi047 12 hsz47 A0 l0.length c0 x5_1 q047 q47; have hr47 := Kd.F_cut (m := (x5_1 : Int).toNat) (c := c0) hC47 (by omega) hroom47; obtain ⟨A47, hA47⟩ : ∃ A1, A1 = (if c0 = (x5_1 : Int).toNat then A0 else (A0 : Option Addr).map (·.add ((x5_1 : Int).toNat * 12))) := ⟨_, rfl⟩; obtain ⟨c47, hc47⟩ : ∃ c1, c1 = c0 - (x5_1 : Int).toNat := ⟨_, rfl⟩; have hy47 : y199.length = l0.length - (x5_1 : Int).toNat := (by rw [Ny199.out, List.length_drop] <;> omega); rw [show (l0).drop (x5_1 : Int).toNat = y199 from Ny199.out.symm] at hr47; replace hr47 : Kd.F k30 _ _ A47 y199.length y199 := (by rw [hA47]; exact hr47); rw [← hy47, ← hA47, ← hc47] at hcut47; have HO203 := am (show Kd.V k30 30 _ w.heap.size _ (.slice A47 y199.length c47) y199 from Kd.V_mk (by rw [hy47, hc47]; exact Nat.sub_le_sub_right hroom47 _) hr47); have HC203 := am (show y199.length ≤ c47 from by rw [hy47, hc47]; exact Nat.sub_le_sub_right hroom47 _); clear hr47 hC47 hroom47 hi047 hsz47 hc47; have KY47 := am hy47; have KA47 := am hA47; clear hy47 hA47; replace q47 := eq_true q47) | ((with_reducible refine gate_builtin (b := .append) (xs := #[.tmp 47, .tmp 50]) rfl ?_); at_builtin; refine Kd.R_append_rows k30 (w0 := w) w.heap.size rfl (.tmp 47) (.tmp 50) 36 30 (.agg #[(.int .i64 0), (.int .i64 0), (.int .i64 0), (.int .i64 0), (.int .i64 0), (.int .i64 0), (.int .i64 0), (.int .i64 0), (.int .i64 0), (.int .i64 0), (.bool false), (.string ⟨#[]⟩)]) 104 rfl Try.underlying36 info30 rfl (by decide) (by omega) v197 y196 y199 _ _ _ (fun k_ => (w.heap.size ≤ k_) ∧ k_ ≠ gb159) (fun _ => False) rfl rfl ?aO ?aR (fun _ _ h => h) (fun _ h => h.elim) ?aF ?aB ?aS ?aL ?_; (case aR => repeat (first | exact (Kd.V_reads' HO203.out).2.2 | (with_reducible refine Kd.C_alloc ?_ _) | (with_reducible refine Kd.C_drewN ?_ _) | (with_reducible refine Kd.C_drew ?_))); (case aB => exact (by repeat (first | (with_reducible first | exact HB.out | apply below_alloc | apply pw_below_drewN | apply below_drew1 | refine below_set ?_ GE159.out) | exact HB.out))); (case aF => exact (fun k_ hk => ⟨(Nat.le_trans (below_size (by repeat (first | (with_reducible first | exact HB.out | apply below_alloc | apply pw_below_drewN | apply below_drew1 | refine below_set ?_ GE159.out) | exact HB.out))) hk), Kd.freshB (g := gb159) (o := .cells #[.int .i64 a1_0, .int .i64 a1_1, .int .i64 a1_2, .int .i64 a1_3, .int .i64 a1_4, .int .i64 a1_5, .int .i64 a1_6, .int .i64 a1_7, .int .i64 a1_8, .int .i64 a1_9, .bool a1_10, .string a1_11] 30 (0, 0)) (by (with_reducible repeat (first | refine blk_drewN ?_ _ | refine blk_drew ?_ | refine blk_alloc ?_ _)); exact BK159.out) k_ hk⟩)); (case aO => exact (by (with_reducible repeat (first | apply Kd.R_alloc | apply Kd.R_drewN | apply Kd.R_drew)); exact HO198.out)); (case aS => exact (below_size (by repeat (first | (with_reducible first | exact HB.out | apply below_alloc | apply pw_below_drewN | apply below_drew1 | refine below_set ?_ GE159.out) | exact HB.out)))); (case aL => have := LMc38.out; omega); intro v205 w48 ho hb hg hat; rw [← Ny204.out] at ho; have n0_ := am (Kd.V_afterv (ok := (fun k_ => (P0_ k_ ∨ w.heap.size ≤ k_) ∧ k_ ≠ gb159)) (by (with_reducible repeat (first | apply Kd.V_alloc | apply Kd.V_drewN | apply Kd.V_drew)); exact HO_0.out) hg hat); have n1_ := am (blk_grown (g := gb159) (o := .cells #[.int .i64 a1_0, .int .i64 a1_1, .int .i64 a1_2, .int .i64 a1_3, .int .i64 a1_4, .int .i64 a1_5, .int .i64 a1_6, .int .i64 a1_7, .int .i64 a1_8, .int .i64 a1_9, .bool a1_10, .string a1_11] 30 (0, 0)) (by (with_reducible repeat (first | refine blk_drewN ?_ _ | refine blk_drew ?_ | refine blk_alloc ?_ _)); exact BK159.out) hg (Kd.R_away HO198.out (fun _ hk => hk.2))); have n2_ := am (Kd.V_afterv (ok := (fun k_ => (P0_ k_ ∨ w.heap.size ≤ k_) ∧ k_ ≠ gb159)) (by (with_reducible repeat (first | apply Kd.V_alloc | apply Kd.V_drewN | apply Kd.V_drew)); exact HO192.out) hg hat); have n3_ := am (Kd.V_afterv (ok := (fun k_ => (P0_ k_ ∨ w.heap.size ≤ k_) ∧ k_ ≠ gb159)) (by (with_reducible repeat (first | apply Kd.V_alloc | apply Kd.V_drewN | apply Kd.V_drew)); exact HO203.out) hg hat); have n4_ := am (hb); have n5_ := am (ho); clear HO_0; clear BK159; clear HO192; clear HO203; clear HB; clear HO198; have HO_0 := n0_; have BK159 := n1_; have HO192 := n2_; have HO203 := n3_; have HB := n4_; have HO206 := n5_; clear n0_ n1_ n2_ n3_ n4_ n5_; clear ho hb hg hat))
         go_ret
         exact ⟨_, by first | rfl | (simp [errW_none, errW_some] <;> rfl) | (simp [*, errW_none, errW_some] <;> rfl), Kd.V_mono (Kd.R_V (by (with_reducible repeat (first | apply Kd.R_alloc | apply Kd.R_drewN | apply Kd.R_drew)); exact Kd.R_mono HO206.out (fun _ hk => hk.1))) (fun k_ hk => by first | exact ⟨(.inr (hk.1)), hk.2⟩ | exact (.inr (hk))), by repeat (first | (with_reducible first | exact HB.out | apply below_alloc | apply pw_below_drewN | apply below_drew1 | refine below_set ?_ GE159.out) | exact HB.out)⟩
        ·rw [if_neg c38] at H
         exact absurd H (by simp)
       ·rw [if_neg c35] at H
        exact absurd H (by simp)
      ·rw [if_neg c34] at H
       exact absurd H (by simp)
     ·rw [if_neg c33] at H
      exact absurd H (by simp)
    ·rw [if_neg c32] at H
     exact absurd H (by simp)

end Go.Proofs.Ytomigiindmojkaa.QJ

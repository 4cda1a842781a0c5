/- Proved here: a call of each of these functions of the program does what the Lean function of the same name says. Conditions: the premises of each theorem (what the arguments read as). Written by a program of this session over the print of the kit, repaired, and joined with texts by hand. -/
import Derived.Test.YtomigiindmojkaaQKx0
import Derived.Test.YtomigiindmojkaaQKx17
import Derived.Test.YtomigiindmojkaaQKx18
import Derived.Test.YtomigiindmojkaaQKx19
namespace Go.Proofs.Ytomigiindmojkaa.QK
open Go.Proofs.Ytomigiindmojkaa.Base Go.RowKit Go.Proofs.YtomigiindmojkaaW.PrintWords Go.Proofs.YtomigiindmojkaaW.PrintLast Go.Proofs.YtomigiindmojkaaW.PrintMore
attribute [local go_sem] max2_int min2_int max_two min_two max_three min_three max_four min_four   -- for this text's walks alone
set_option linter.unusedVariables false
set_option linter.unusedSimpArgs false

/-! ### impl_logBy: function 56 -/
mutual
def impl_logBy.j0 : Nat → List (S30) → List Int → Bool → Bool → Option ((List (S30)))
 | 0, _, _, _, _ => none
 | k + 1, x0, x1, x2, x17 => if x17 = true then (some ([] : List (S30))) else (impl_logBy.l0 k x1 x2 (([] : List (S30))) x0 (x0.length : Int) 0)
def impl_logBy.l0 : Nat → List Int → Bool → List (S30) → List (S30) → Int → Int → Option ((List (S30)))
 | 0, _, _, _, _, _, _ => none
 | k + 1, x1, x2, x7, x19, x20, x21 => if x21 < x20 then (if 0 ≤ x21 then (if x21 < (x19.length : Int) then ((impl_VectorContains.f k x1 ((rd_T30 x19 x21).f0.f0) ((rd_T30 x19 x21).f0.f1)).bind fun t203 => (if (t203 == x2) = true then (if x7.length < 1353245080339 then (impl_logBy.l0 k x1 x2 (x7 ++ [(⟨(⟨(rd_T30 x19 x21).f0.f0, (rd_T30 x19 x21).f0.f1⟩ : S28), (rd_T30 x19 x21).f1, (⟨(rd_T30 x19 x21).f2.f0, (rd_T30 x19 x21).f2.f1⟩ : S28), (⟨(rd_T30 x19 x21).f3.f0, (rd_T30 x19 x21).f3.f1⟩ : S28), (⟨(rd_T30 x19 x21).f4.f0, (rd_T30 x19 x21).f4.f1⟩ : S28), (rd_T30 x19 x21).f5, (rd_T30 x19 x21).f6, (rd_T30 x19 x21).f7⟩ : S30)]) x19 x20 (wrap64 (x21 + 1))) else (none)) else (impl_logBy.l0 k x1 x2 x7 x19 x20 (wrap64 (x21 + 1))))) else (none)) else (none)) else (some x7)
end
def impl_logBy.f (k : Nat) (l0 : List (S30)) (l1 : List Int) (a2 : Bool) : Option ((List (S30))) := (impl_ValidLog.f k l0).bind fun t196 => (if t196 = true then ((impl_ValidVector.f k l1).bind fun t197 => (impl_logBy.j0 k l0 l1 a2 (!t197))) else (impl_logBy.j0 k l0 l1 a2 true))
theorem impl_logBy.mono_l : ∀ k, (∀ y0 y1 y2 y3, LeO (impl_logBy.j0 k y0 y1 y2 y3) (impl_logBy.j0 (k + 1) y0 y1 y2 y3)) ∧ (∀ y0 y1 y2 y3 y4 y5, LeO (impl_logBy.l0 k y0 y1 y2 y3 y4 y5) (impl_logBy.l0 (k + 1) y0 y1 y2 y3 y4 y5))
 | 0 => ⟨fun _ _ _ _ r h => by simp [impl_logBy.j0] at h, fun _ _ _ _ _ _ r h => by simp [impl_logBy.l0] at h⟩
 | k + 1 => by
  obtain ⟨ih0, ih1⟩ := impl_logBy.mono_l k
  refine ⟨?_, ?_⟩
  ·intro y0 y1 y2 y3
   unfold impl_logBy.j0
   repeat' first
   | (with_reducible exact ih0 _ _ _ _)
   | (with_reducible exact ih1 _ _ _ _ _ _)
   | (with_reducible exact impl_ValidLog.mono _ _)
   | (with_reducible exact impl_ValidVector.mono _ _)
   | (with_reducible exact impl_VectorContains.mono _ _ _ _)
   | (with_reducible exact LeO.refl _)
   | (with_reducible exact LeO.none _)
   | (with_reducible refine LeO.ite ?_ ?_)
   | (with_reducible refine LeO.bind ?_ (fun _ => ?_))
   | exact ih0 _ _ _ _
   | exact ih1 _ _ _ _ _ _
   | exact impl_ValidLog.mono _ _
   | exact impl_ValidVector.mono _ _
   | exact impl_VectorContains.mono _ _ _ _
   | exact LeO.none _
   | refine LeO.ite ?_ ?_
   | refine LeO.bind ?_ (fun _ => ?_)
  ·intro y0 y1 y2 y3 y4 y5
   unfold impl_logBy.l0
   repeat' first
   | (with_reducible exact ih0 _ _ _ _)
   | (with_reducible exact ih1 _ _ _ _ _ _)
   | (with_reducible exact impl_ValidLog.mono _ _)
   | (with_reducible exact impl_ValidVector.mono _ _)
   | (with_reducible exact impl_VectorContains.mono _ _ _ _)
   | (with_reducible exact LeO.refl _)
   | (with_reducible exact LeO.none _)
   | (with_reducible refine LeO.ite ?_ ?_)
   | (with_reducible refine LeO.bind ?_ (fun _ => ?_))
   | exact ih0 _ _ _ _
   | exact ih1 _ _ _ _ _ _
   | exact impl_ValidLog.mono _ _
   | exact impl_ValidVector.mono _ _
   | exact impl_VectorContains.mono _ _ _ _
   | exact LeO.none _
   | refine LeO.ite ?_ ?_
   | refine LeO.bind ?_ (fun _ => ?_)
theorem impl_logBy.mono : ∀ a0 a1 a2 k, LeO (impl_logBy.f k a0 a1 a2) (impl_logBy.f (k + 1) a0 a1 a2) := by
 intro a0 a1 a2 k
 obtain ⟨ih0, ih1⟩ := impl_logBy.mono_l k
 unfold impl_logBy.f
 repeat' first
   | (with_reducible exact ih0 _ _ _ _)
   | (with_reducible exact ih1 _ _ _ _ _ _)
   | (with_reducible exact impl_ValidLog.mono _ _)
   | (with_reducible exact impl_ValidVector.mono _ _)
   | (with_reducible exact impl_VectorContains.mono _ _ _ _)
   | (with_reducible exact LeO.refl _)
   | (with_reducible exact LeO.none _)
   | (with_reducible refine LeO.ite ?_ ?_)
   | (with_reducible refine LeO.bind ?_ (fun _ => ?_))
   | exact ih0 _ _ _ _
   | exact ih1 _ _ _ _ _ _
   | exact impl_ValidLog.mono _ _
   | exact impl_ValidVector.mono _ _
   | exact impl_VectorContains.mono _ _ _ _
   | exact LeO.none _
   | refine LeO.ite ?_ ?_
   | refine LeO.bind ?_ (fun _ => ?_)
set_option maxHeartbeats 8000000 in
set_option maxRecDepth 100000 in
theorem impl_logBy.calls (k : Nat) (A0 : Option Addr) (c0 : Nat) (l0 : List (S30)) (A1 : Option Addr) (c1 : Nat) (l1 : List Int) (a2 : Bool) (r : List (S30)) (w : World) (hr0 : Kd.C k30 w A0 l0.length l0) (hc0 : l0.length ≤ c0) (hr1 : Kd.C (Kd.int .i64) w A1 l1.length l1) (hc1 : l1.length ≤ c1) (h : impl_logBy.f k l0 l1 a2 = some r) :
  Calls Try.prog 56 #[.slice A0 l0.length c0, .slice A1 l1.length c1, .bool a2] w fun e w' => ∃ v0_ : Value, e = .returned (v0_) ∧ Kd.R k30 30 w' w.heap.size (fun _ => True) v0_ r ∧ Below w.heap.size w w' := by
 have hu30 := Try.underlying30
 have hu28 := Try.underlying28
 have HR0 := Aside0.mk hr0
 have HC0 := Aside0.mk hc0
 clear hr0 hc0
 have HR1 := Aside0.mk hr1
 have HC1 := Aside0.mk hc1
 clear hr1 hc1
 have HB := Aside0.mk (Below.refl w.heap.size w)
 have H : ((impl_ValidLog.f k l0).bind fun t196 => (if t196 = true then ((impl_ValidVector.f k l1).bind fun t197 => (impl_logBy.j0 k l0 l1 a2 (!t197))) else (impl_logBy.j0 k l0 l1 a2 true))) = some r := h
 clear h
 have HC4 := Aside0.mk H
 clear H
 go_enter Try.func56, Try.ntmps56
 go_upto_region 1 with (fail)
 go_cut [17] (fun v17 wc => ∃ (kq : Nat) (x17_3 : Bool), v17 = .bool x17_3 ∧ Aside0 (impl_logBy.j0 kq l0 l1 a2 x17_3 = some r) ∧ Aside0 (kq ≤ k) ∧ Aside0 (Below w.heap.size w wc))
 case first =>
  have H := HC4.out
  clear HC4
  replace H := Option.bind_eq_some_iff.mp H
  obtain ⟨t196, A50, H⟩ := H
  replace H : (if t196 = true then ((impl_ValidVector.f k l1).bind fun t197 => (impl_logBy.j0 k l0 l1 a2 (!t197))) else (impl_logBy.j0 k l0 l1 a2 true)) = some r := H
  have A5 := Aside0.mk A50
  clear A50
  by_cases c6 : t196 = true
  ·subst c6
   have H1 : ((impl_ValidVector.f k l1).bind fun t197 => (impl_logBy.j0 k l0 l1 a2 (!t197))) = some r := by rw [if_pos rfl] at H; exact H
   clear H
   have H := H1
   clear H1
   replace H := Option.bind_eq_some_iff.mp H
   obtain ⟨t197, A70, H⟩ := H
   replace H : (impl_logBy.j0 k l0 l1 a2 (!t197)) = some r := H
   have A7 := Aside0.mk A70
   clear A70
   have H' := Aside0.mk H
   clear H
   go_wp2_with (first | ((with_reducible refine gate_callee (f := 18) rfl ?_); refine goesL_ (some 11) rfl rfl Try.func18 (by kernel_rfl) rfl #[.slice A0 l0.length c0] rfl (by (try simp only [List.map_toArray, List.map_cons, List.map_nil]); first | done | rfl | (simp only [List.length_drop, List.length_take]; rfl)) ?_; (with_reducible refine (impl_ValidLog.calls k _ _ l0 true _ ?side1 ?side2 A5.out).mono ?_); (case side1 => repeat (first | exact (Kd.C_below HR0.out HB.out) | (with_reducible refine Kd.C_alloc ?_ _) | (with_reducible refine Kd.C_drewN ?_ _) | (with_reducible refine Kd.C_drew ?_))); (case side2 => exact HC0.out); rintro e w8 ⟨rfl, hb⟩; refine ⟨_, rfl, ?_⟩; have n0_ := Aside0.mk (below_step (by repeat (first | (with_reducible first | exact HB.out | apply below_alloc | apply pw_below_drewN | apply below_drew1) | exact HB.out)) hb); clear HB; have HB := n0_; clear n0_; (try clear hb); (try clear hb2); (try clear hk); (try clear hi)) | (go_at_call 69; (with_reducible refine (impl_ValidVector.calls k _ _ l1 t197 _ ?side1 ?side2 A7.out).mono ?_); (case side1 => repeat (first | exact (Kd.C_below HR1.out HB.out) | (with_reducible refine Kd.C_alloc ?_ _) | (with_reducible refine Kd.C_drewN ?_ _) | (with_reducible refine Kd.C_drew ?_))); (case side2 => exact HC1.out); rintro e w' ⟨rfl, ⟨nd, rfl⟩⟩))
   go_meet
   case rel => exact ⟨_, (!t197), (by first | rfl | (simp; done) | (simp [*]; done)), H', ⟨by first | omega | exact Nat.le_refl _⟩, ⟨by repeat (first | (with_reducible first | exact HB.out | apply below_alloc | apply pw_below_drewN | apply below_drew1) | exact HB.out)⟩⟩
  ·replace c6 := Bool.eq_false_iff.mpr c6
   subst c6
   have H1 : (impl_logBy.j0 k l0 l1 a2 true) = some r := by rw [if_neg (show ¬ (false = true) by decide)] at H; exact H
   clear H
   have H := H1
   clear H1
   have H' := Aside0.mk H
   clear H
   go_wp2_with (first | ((with_reducible refine gate_callee (f := 18) rfl ?_); refine goesL_ (some 11) rfl rfl Try.func18 (by kernel_rfl) rfl #[.slice A0 l0.length c0] rfl (by (try simp only [List.map_toArray, List.map_cons, List.map_nil]); first | done | rfl | (simp only [List.length_drop, List.length_take]; rfl)) ?_; (with_reducible refine (impl_ValidLog.calls k _ _ l0 false _ ?side1 ?side2 A5.out).mono ?_); (case side1 => repeat (first | exact (Kd.C_below HR0.out HB.out) | (with_reducible refine Kd.C_alloc ?_ _) | (with_reducible refine Kd.C_drewN ?_ _) | (with_reducible refine Kd.C_drew ?_))); (case side2 => exact HC0.out); rintro e w9 ⟨rfl, hb⟩; refine ⟨_, rfl, ?_⟩; have n0_ := Aside0.mk (below_step (by repeat (first | (with_reducible first | exact HB.out | apply below_alloc | apply pw_below_drewN | apply below_drew1) | exact HB.out)) hb); clear HB; have HB := n0_; clear n0_; (try clear hb); (try clear hb2); (try clear hk); (try clear hi)))
   go_meet
   case rel => exact ⟨_, (true), (by first | rfl | (simp; done) | (simp [*]; done)), H', ⟨by first | omega | exact Nat.le_refl _⟩, ⟨by repeat (first | (with_reducible first | exact HB.out | apply below_alloc | apply pw_below_drewN | apply below_drew1) | exact HB.out)⟩⟩
 case rest =>
  clear HC4
  try clear c1
  try clear p2
  try clear c5
  try clear c6
  obtain ⟨kq, x17_3, rfl, HA, HJ3, HB⟩ := hcut
  cases kq with
  | zero => exact absurd HA.out (by simp [impl_logBy.j0])
  | succ kj3 =>
   have H := HA.out
   clear HA
   simp only [impl_logBy.j0] at H
   by_cases c10 : x17_3 = true
   ·subst c10
    have H1 : (some ([] : List (S30))) = some r := by rw [if_pos rfl] at H; exact H
    clear H
    have H := H1
    clear H1
    obtain rfl := Option.some.inj H
    go_wp2
    go_ret
    exact ⟨_, by first | rfl | (simp [errW_none, errW_some] <;> rfl) | (simp [*, errW_none, errW_some] <;> rfl), by first | exact Kd.R_nil _ _ _ _ _ | exact Kd.N_nil _ _ _ _ _ | exact Kd.V_nil _ _ _ _ _ | exact Kd.Q_nil _ _ _ _ _ | exact Kd.S_nil _ _ _ _ _, by repeat (first | (with_reducible first | exact HB.out | apply below_alloc | apply pw_below_drewN | apply below_drew1) | exact HB.out)⟩
   ·replace c10 := Bool.eq_false_iff.mpr c10
    subst c10
    have H1 : (impl_logBy.l0 kj3 l1 a2 (([] : List (S30))) l0 (l0.length : Int) 0) = some r := by rw [if_neg (show ¬ (false = true) by decide)] at H; exact H
    clear H
    have H := H1
    clear H1
    obtain ⟨y198, hy198⟩ : ∃ y_ : List (S30), y_ = (([] : List (S30))) := ⟨_, rfl⟩
    replace H : (impl_logBy.l0 kj3 l1 a2 y198 l0 (l0.length : Int) 0) = some r := by first | (rw [hy198]; with_reducible exact H) | (have H2_ := (Option.bind_some _ _).symm.trans H; rw [hy198]; with_reducible exact H2_) | (have H2_ := (Option.bind_some _ _).symm.trans H; with_reducible exact H2_) | with_reducible exact H | (rw [hy198]; exact H) | exact H
    have Ny198 := Aside0.mk hy198
    clear hy198
    have H' := Aside0.mk H
    clear H
    go_wp2_with (first | ((with_reducible refine gate_dst (N := 18) rfl ?_); refine Kd.R_lit k30 _ 30 ?hg (N := 18) ?hd (xs := ([] : List (S30))) (inner := []) (ok := fun _ => True) (okp := fun _ => True) ?hr ?hp (fun _ hk => hk) trivial (Below.refl _ _) (Nat.le_refl _) (by simp) ?_; (case hd => rfl); (case hg => rfl); (case hr => first | (go_simp; done) | (go_simp; rfl)); (case hp => exact (Reps.none _ _)); intro v199 w11 ho12 hb hg_ hnew_; clear hg_ hnew_; (first | rw [← Ny198.out] at ho12 | (simp only [Int.reduceToNat] at ho12; rw [← Ny198.out] at ho12)); have n0_ := Aside0.mk (Kd.R_lower ho12 (below_size (by repeat (first | (with_reducible first | exact HB.out | apply below_alloc | apply pw_below_drewN | apply below_drew1) | exact HB.out)))); have n1_ := Aside0.mk (below_step (by repeat (first | (with_reducible first | exact HB.out | apply below_alloc | apply pw_below_drewN | apply below_drew1) | exact HB.out)) hb); clear HB; have HO200 := n0_; have HB := n1_; clear n0_ n1_; clear hb ho12))
    go_loopg [7, 21] kj3 (fun kq v7 v21 w' => ∃ (x7_2 : List (S30)) (x21_2 : Int), v21 = .int .i64 x21_2 ∧ Aside0 (impl_logBy.l0 kq l1 a2 x7_2 l0 (l0.length : Int) x21_2 = some r) ∧ Aside0 (kq ≤ kj3) ∧ Aside0 (Kd.R k30 30 w' w.heap.size (fun _ => True) v7 x7_2) ∧ Aside0 (Below w.heap.size w w'))
    case atStart => exact ⟨(y198), (0), (by first | rfl | (simp; done) | (simp [*]; done)), H', ⟨Nat.le_refl _⟩, ⟨by (with_reducible repeat (first | apply Kd.R_alloc | apply Kd.R_drewN | apply Kd.R_drew)); exact HO200.out⟩, ⟨by repeat (first | (with_reducible first | exact HB.out | apply below_alloc | apply pw_below_drewN | apply below_drew1) | exact HB.out)⟩⟩
    case round =>
     clear H'
     try clear c1
     try clear p2
     try clear c5
     try clear c6
     try clear c10
     try clear p2
     obtain ⟨x7_2, x21_2, rfl, HA, HK2, HO_7, HB⟩ := hrel
     cases gk with
     | zero => exact absurd HA.out (by simp [impl_logBy.l0])
     | succ k2 =>
      have H := HA.out
      clear HA
      simp only [impl_logBy.l0] at H
      by_cases c13 : x21_2 < (l0.length : Int)
      ·rw [if_pos c13] at H
       have c13b0 : decide (x21_2 < (l0.length : Int)) = true := decide_eq_true c13
       clear c13
       by_cases c14 : 0 ≤ x21_2
       ·rw [if_pos c14] at H
        have c14b0 : decide (0 ≤ x21_2) = true := decide_eq_true c14
        clear c14
        by_cases c15 : x21_2 < (l0.length : Int)
        ·rw [if_pos c15] at H
         have c15b0 : decide (x21_2 < (l0.length : Int)) = true := decide_eq_true c15
         clear c15
         replace H := Option.bind_eq_some_iff.mp H
         obtain ⟨t203, A160, H⟩ := H
         replace H : (if (t203 == a2) = true then (if x7_2.length < 1353245080339 then (impl_logBy.l0 k2 l1 a2 (x7_2 ++ [(⟨(⟨(rd_T30 l0 x21_2).f0.f0, (rd_T30 l0 x21_2).f0.f1⟩ : S28), (rd_T30 l0 x21_2).f1, (⟨(rd_T30 l0 x21_2).f2.f0, (rd_T30 l0 x21_2).f2.f1⟩ : S28), (⟨(rd_T30 l0 x21_2).f3.f0, (rd_T30 l0 x21_2).f3.f1⟩ : S28), (⟨(rd_T30 l0 x21_2).f4.f0, (rd_T30 l0 x21_2).f4.f1⟩ : S28), (rd_T30 l0 x21_2).f5, (rd_T30 l0 x21_2).f6, (rd_T30 l0 x21_2).f7⟩ : S30)]) l0 (l0.length : Int) (wrap64 (x21_2 + 1))) else (none)) else (impl_logBy.l0 k2 l1 a2 x7_2 l0 (l0.length : Int) (wrap64 (x21_2 + 1)))) = some r := H
         have A16 := Aside0.mk A160
         clear A160
         by_cases c17 : (t203 == a2) = true
         ·rw [if_pos c17] at H
          have c17b0 : (t203 == a2) = true := c17
          (try (have c17b1 : decide (t203 = a2) = true := by simpa using c17))
          (try (have c17b2 : (t203 == a2) = true := by simpa using c17))
          clear c17
          by_cases c18 : x7_2.length < 1353245080339
          ·rw [if_pos c18] at H
           have LMc18 := Aside0.mk c18
           clear c18
           obtain ⟨y204, hy204⟩ : ∃ y_ : List (S30), y_ = (x7_2 ++ [(⟨(⟨(rd_T30 l0 x21_2).f0.f0, (rd_T30 l0 x21_2).f0.f1⟩ : S28), (rd_T30 l0 x21_2).f1, (⟨(rd_T30 l0 x21_2).f2.f0, (rd_T30 l0 x21_2).f2.f1⟩ : S28), (⟨(rd_T30 l0 x21_2).f3.f0, (rd_T30 l0 x21_2).f3.f1⟩ : S28), (⟨(rd_T30 l0 x21_2).f4.f0, (rd_T30 l0 x21_2).f4.f1⟩ : S28), (rd_T30 l0 x21_2).f5, (rd_T30 l0 x21_2).f6, (rd_T30 l0 x21_2).f7⟩ : S30)]) := ⟨_, rfl⟩
           replace H : (impl_logBy.l0 k2 l1 a2 y204 l0 (l0.length : Int) (wrap64 (x21_2 + 1))) = some r := by first | (rw [hy204]; with_reducible exact H) | (have H2_ := (Option.bind_some _ _).symm.trans H; rw [hy204]; with_reducible exact H2_) | (have H2_ := (Option.bind_some _ _).symm.trans H; with_reducible exact H2_) | with_reducible exact H | (rw [hy204]; exact H) | exact H
           have Ny204 := Aside0.mk hy204
           clear hy204
           have H' := Aside0.mk H
           clear H
           have p201 : 0 ≤ (x21_2 : Int) := of_decide_eq_true (by first | (with_reducible assumption) | assumption)
           have q201 : x21_2 < (l0.length : Int) := of_decide_eq_true (by first | (with_reducible assumption) | assumption)
           obtain ⟨ad201, e201, hx201_0, hx201_1, hx201_2, hx201_3, hx201_4, hx201_5, hx201_6, hx201_7, hx201_8, hx201_9, hx201_10, hx201_11⟩ := at_T30 HR0.out x21_2 p201 q201
           cases e201
           replace hx201_0 := (HB.out.cell (World.block_lt_of_cell? w _ hx201_0)).trans hx201_0
           replace hx201_1 := (HB.out.cell (World.block_lt_of_cell? w _ hx201_1)).trans hx201_1
           replace hx201_2 := (HB.out.cell (World.block_lt_of_cell? w _ hx201_2)).trans hx201_2
           replace hx201_3 := (HB.out.cell (World.block_lt_of_cell? w _ hx201_3)).trans hx201_3
           replace hx201_4 := (HB.out.cell (World.block_lt_of_cell? w _ hx201_4)).trans hx201_4
           replace hx201_5 := (HB.out.cell (World.block_lt_of_cell? w _ hx201_5)).trans hx201_5
           replace hx201_6 := (HB.out.cell (World.block_lt_of_cell? w _ hx201_6)).trans hx201_6
           replace hx201_7 := (HB.out.cell (World.block_lt_of_cell? w _ hx201_7)).trans hx201_7
           replace hx201_8 := (HB.out.cell (World.block_lt_of_cell? w _ hx201_8)).trans hx201_8
           replace hx201_9 := (HB.out.cell (World.block_lt_of_cell? w _ hx201_9)).trans hx201_9
           replace hx201_10 := (HB.out.cell (World.block_lt_of_cell? w _ hx201_10)).trans hx201_10
           replace hx201_11 := (HB.out.cell (World.block_lt_of_cell? w _ hx201_11)).trans hx201_11
           replace p201 := eq_true p201
           replace q201 := eq_true q201
           go_wp2_with (first | ((with_reducible refine gate_dst (N := 9) rfl ?_); refine box_event ?hg (N := 9) ?hd (cs := #[.int .i64 0, .int .i64 0, .int .i64 0, .int .i64 0, .int .i64 0, .int .i64 0, .int .i64 0, .int .i64 0, .int .i64 0, .int .i64 0, .bool false, .string (⟨#[]⟩ : ByteArray)]) (t := 30) ?hr ?_; (case hd => rfl); (case hg => rfl); (case hr => first | (go_simp; done) | (go_simp; rfl)); intro gb202 hg w19 hbox hb; have n0_ := Aside0.mk (Kd.R_below (Kd.R_elderB (by (with_reducible repeat (first | apply Kd.R_alloc | apply Kd.R_drewN | apply Kd.R_drew)); exact HO_7.out) gb202 (Nat.le_of_eq hg.symm)) hb); have n1_ := Aside0.mk (below_step (by repeat (first | (with_reducible first | exact HB.out | apply below_alloc | apply pw_below_drewN | apply below_drew1) | exact HB.out)) hb); have n2_ := Aside0.mk (hbox); have n3_ := Aside0.mk ((by rw [hg]; exact (below_size (by repeat (first | (with_reducible first | exact HB.out | apply below_alloc | apply pw_below_drewN | apply below_drew1) | exact HB.out))) : w.heap.size ≤ gb202)); have n4_ := Aside0.mk ((by rw [hg]; exact (below_size (by repeat (first | (with_reducible first | exact HB.out | apply below_alloc | apply pw_below_drewN | apply below_drew1) | exact HB.out))) : w.heap.size ≤ gb202)); clear HO_7; clear HB; have HO_7 := n0_; have HB := n1_; have BK202 := n2_; have GW202 := n3_; have GE202 := n4_; clear n0_ n1_ n2_ n3_ n4_; clear hb hbox hg; have hcz20_0 : w19.cell? ⟨gb202, 0, none⟩ = some (.int .i64 0) := (blk_cell BK202.out 0).trans rfl; have hcz20_1 : w19.cell? ⟨gb202, 1, none⟩ = some (.int .i64 0) := (blk_cell BK202.out 1).trans rfl; have hcz20_2 : w19.cell? ⟨gb202, 2, none⟩ = some (.int .i64 0) := (blk_cell BK202.out 2).trans rfl; have hcz20_3 : w19.cell? ⟨gb202, 3, none⟩ = some (.int .i64 0) := (blk_cell BK202.out 3).trans rfl; have hcz20_4 : w19.cell? ⟨gb202, 4, none⟩ = some (.int .i64 0) := (blk_cell BK202.out 4).trans rfl; have hcz20_5 : w19.cell? ⟨gb202, 5, none⟩ = some (.int .i64 0) := (blk_cell BK202.out 5).trans rfl; have hcz20_6 : w19.cell? ⟨gb202, 6, none⟩ = some (.int .i64 0) := (blk_cell BK202.out 6).trans rfl; have hcz20_7 : w19.cell? ⟨gb202, 7, none⟩ = some (.int .i64 0) := (blk_cell BK202.out 7).trans rfl; have hcz20_8 : w19.cell? ⟨gb202, 8, none⟩ = some (.int .i64 0) := (blk_cell BK202.out 8).trans rfl; have hcz20_9 : w19.cell? ⟨gb202, 9, none⟩ = some (.int .i64 0) := (blk_cell BK202.out 9).trans rfl; have hcz20_10 : w19.cell? ⟨gb202, 10, none⟩ = some (.bool false) := (blk_cell BK202.out 10).trans rfl; have hcz20_11 : w19.cell? ⟨gb202, 11, none⟩ = some (.string (⟨#[]⟩ : ByteArray)) := (blk_cell BK202.out 11).trans rfl; have hfz20_0 := blk_frozen BK202.out 0; have hfz20_1 := blk_frozen BK202.out 1; have hfz20_2 := blk_frozen BK202.out 2; have hfz20_3 := blk_frozen BK202.out 3; have hfz20_4 := blk_frozen BK202.out 4; have hfz20_5 := blk_frozen BK202.out 5; have hfz20_6 := blk_frozen BK202.out 6; have hfz20_7 := blk_frozen BK202.out 7; have hfz20_8 := blk_frozen BK202.out 8; have hfz20_9 := blk_frozen BK202.out 9; have hfz20_10 := blk_frozen BK202.out 10; have hfz20_11 := blk_frozen BK202.out 11) | ((with_reducible refine gate_callee (f := 70) rfl ?_); refine goesL_ (some 28) rfl rfl Try.func70 (by kernel_rfl) rfl #[.slice A1 l1.length c1, .agg #[.int .i64 ((rd_T30 l0 x21_2).f0.f0), .int .i64 ((rd_T30 l0 x21_2).f0.f1)]] rfl (by (try simp only [List.map_toArray, List.map_cons, List.map_nil]); first | done | rfl | (simp only [List.length_drop, List.length_take]; rfl)) ?_; (with_reducible refine (impl_VectorContains.calls k2 _ _ l1 ((rd_T30 l0 x21_2).f0.f0) ((rd_T30 l0 x21_2).f0.f1) t203 _ ?side1 ?side2 A16.out).mono ?_); (case side1 => exact Kd.C_below HR1.out (by repeat (first | (with_reducible first | exact HB.out | apply below_alloc | apply pw_below_drewN | apply below_drew1 | refine below_set ?_ GE202.out) | exact HB.out))); (case side2 => exact HC1.out); rintro e w21 ⟨rfl, hb⟩; refine ⟨_, rfl, ?_⟩; have n0_ := Aside0.mk (Kd.R_below (by (with_reducible repeat (first | apply Kd.R_alloc | apply Kd.R_drewN | apply Kd.R_drew)); exact (Kd.R_mono (Kd.R_far (p := ⟨gb202, 11, none⟩) (Kd.R_far (p := ⟨gb202, 10, none⟩) (Kd.R_far (p := ⟨gb202, 9, none⟩) (Kd.R_far (p := ⟨gb202, 8, none⟩) (Kd.R_far (p := ⟨gb202, 7, none⟩) (Kd.R_far (p := ⟨gb202, 6, none⟩) (Kd.R_far (p := ⟨gb202, 5, none⟩) (Kd.R_far (p := ⟨gb202, 4, none⟩) (Kd.R_far (p := ⟨gb202, 3, none⟩) (Kd.R_far (p := ⟨gb202, 2, none⟩) (Kd.R_far (p := ⟨gb202, 1, none⟩) (Kd.R_far (p := ⟨gb202, 0, none⟩) (Kd.R_mono HO_7.out (fun k_ hk => (⟨hk, hk.2⟩ : _ ∧ k_ ≠ gb202))) (fun _ hk => hk.2) (.int .i64 ((rd_T30 l0 x21_2).f0.f0))) (fun _ hk => hk.2) (.int .i64 ((rd_T30 l0 x21_2).f0.f1))) (fun _ hk => hk.2) (.int .i64 ((rd_T30 l0 x21_2).f1))) (fun _ hk => hk.2) (.int .i64 ((rd_T30 l0 x21_2).f2.f0))) (fun _ hk => hk.2) (.int .i64 ((rd_T30 l0 x21_2).f2.f1))) (fun _ hk => hk.2) (.int .i64 ((rd_T30 l0 x21_2).f3.f0))) (fun _ hk => hk.2) (.int .i64 ((rd_T30 l0 x21_2).f3.f1))) (fun _ hk => hk.2) (.int .i64 ((rd_T30 l0 x21_2).f4.f0))) (fun _ hk => hk.2) (.int .i64 ((rd_T30 l0 x21_2).f4.f1))) (fun _ hk => hk.2) (.int .i64 ((rd_T30 l0 x21_2).f5))) (fun _ hk => hk.2) (.bool ((rd_T30 l0 x21_2).f6))) (fun _ hk => hk.2) (.string ((rd_T30 l0 x21_2).f7))) (fun _ h_ => h_.1))) hb); have n1_ := Aside0.mk (blk_below (g := gb202) (o := .cells #[.int .i64 ((rd_T30 l0 x21_2).f0.f0), .int .i64 ((rd_T30 l0 x21_2).f0.f1), .int .i64 ((rd_T30 l0 x21_2).f1), .int .i64 ((rd_T30 l0 x21_2).f2.f0), .int .i64 ((rd_T30 l0 x21_2).f2.f1), .int .i64 ((rd_T30 l0 x21_2).f3.f0), .int .i64 ((rd_T30 l0 x21_2).f3.f1), .int .i64 ((rd_T30 l0 x21_2).f4.f0), .int .i64 ((rd_T30 l0 x21_2).f4.f1), .int .i64 ((rd_T30 l0 x21_2).f5), .bool ((rd_T30 l0 x21_2).f6), .string ((rd_T30 l0 x21_2).f7)] 30 (0, 0)) (by (with_reducible repeat (first | refine blk_drewN ?_ _ | refine blk_drew ?_ | refine blk_alloc ?_ _)); refine blk_put (cs := #[.int .i64 ((rd_T30 l0 x21_2).f0.f0), .int .i64 ((rd_T30 l0 x21_2).f0.f1), .int .i64 ((rd_T30 l0 x21_2).f1), .int .i64 ((rd_T30 l0 x21_2).f2.f0), .int .i64 ((rd_T30 l0 x21_2).f2.f1), .int .i64 ((rd_T30 l0 x21_2).f3.f0), .int .i64 ((rd_T30 l0 x21_2).f3.f1), .int .i64 ((rd_T30 l0 x21_2).f4.f0), .int .i64 ((rd_T30 l0 x21_2).f4.f1), .int .i64 ((rd_T30 l0 x21_2).f5), .bool ((rd_T30 l0 x21_2).f6), .string (⟨#[]⟩ : ByteArray)]) ?_ 11 _ rfl; (with_reducible repeat (first | refine blk_drewN ?_ _ | refine blk_drew ?_ | refine blk_alloc ?_ _)); refine blk_put (cs := #[.int .i64 ((rd_T30 l0 x21_2).f0.f0), .int .i64 ((rd_T30 l0 x21_2).f0.f1), .int .i64 ((rd_T30 l0 x21_2).f1), .int .i64 ((rd_T30 l0 x21_2).f2.f0), .int .i64 ((rd_T30 l0 x21_2).f2.f1), .int .i64 ((rd_T30 l0 x21_2).f3.f0), .int .i64 ((rd_T30 l0 x21_2).f3.f1), .int .i64 ((rd_T30 l0 x21_2).f4.f0), .int .i64 ((rd_T30 l0 x21_2).f4.f1), .int .i64 ((rd_T30 l0 x21_2).f5), .bool false, .string (⟨#[]⟩ : ByteArray)]) ?_ 10 _ rfl; (with_reducible repeat (first | refine blk_drewN ?_ _ | refine blk_drew ?_ | refine blk_alloc ?_ _)); refine blk_put (cs := #[.int .i64 ((rd_T30 l0 x21_2).f0.f0), .int .i64 ((rd_T30 l0 x21_2).f0.f1), .int .i64 ((rd_T30 l0 x21_2).f1), .int .i64 ((rd_T30 l0 x21_2).f2.f0), .int .i64 ((rd_T30 l0 x21_2).f2.f1), .int .i64 ((rd_T30 l0 x21_2).f3.f0), .int .i64 ((rd_T30 l0 x21_2).f3.f1), .int .i64 ((rd_T30 l0 x21_2).f4.f0), .int .i64 ((rd_T30 l0 x21_2).f4.f1), .int .i64 0, .bool false, .string (⟨#[]⟩ : ByteArray)]) ?_ 9 _ rfl; (with_reducible repeat (first | refine blk_drewN ?_ _ | refine blk_drew ?_ | refine blk_alloc ?_ _)); refine blk_put (cs := #[.int .i64 ((rd_T30 l0 x21_2).f0.f0), .int .i64 ((rd_T30 l0 x21_2).f0.f1), .int .i64 ((rd_T30 l0 x21_2).f1), .int .i64 ((rd_T30 l0 x21_2).f2.f0), .int .i64 ((rd_T30 l0 x21_2).f2.f1), .int .i64 ((rd_T30 l0 x21_2).f3.f0), .int .i64 ((rd_T30 l0 x21_2).f3.f1), .int .i64 ((rd_T30 l0 x21_2).f4.f0), .int .i64 0, .int .i64 0, .bool false, .string (⟨#[]⟩ : ByteArray)]) ?_ 8 _ rfl; (with_reducible repeat (first | refine blk_drewN ?_ _ | refine blk_drew ?_ | refine blk_alloc ?_ _)); refine blk_put (cs := #[.int .i64 ((rd_T30 l0 x21_2).f0.f0), .int .i64 ((rd_T30 l0 x21_2).f0.f1), .int .i64 ((rd_T30 l0 x21_2).f1), .int .i64 ((rd_T30 l0 x21_2).f2.f0), .int .i64 ((rd_T30 l0 x21_2).f2.f1), .int .i64 ((rd_T30 l0 x21_2).f3.f0), .int .i64 ((rd_T30 l0 x21_2).f3.f1), .int .i64 0, .int .i64 0, .int .i64 0, .bool false, .string (⟨#[]⟩ : ByteArray)]) ?_ 7 _ rfl; (with_reducible repeat (first | refine blk_drewN ?_ _ | refine blk_drew ?_ | refine blk_alloc ?_ _)); refine blk_put (cs := #[.int .i64 ((rd_T30 l0 x21_2).f0.f0), .int .i64 ((rd_T30 l0 x21_2).f0.f1), .int .i64 ((rd_T30 l0 x21_2).f1), .int .i64 ((rd_T30 l0 x21_2).f2.f0), .int .i64 ((rd_T30 l0 x21_2).f2.f1), .int .i64 ((rd_T30 l0 x21_2).f3.f0), .int .i64 0, .int .i64 0, .int .i64 0, .int .i64 0, .bool false, .string (⟨#[]⟩ : ByteArray)]) ?_ 6 _ rfl; (with_reducible repeat (first | refine blk_drewN ?_ _ | refine blk_drew ?_ | refine blk_alloc ?_ _)); refine blk_put (cs := #[.int .i64 ((rd_T30 l0 x21_2).f0.f0), .int .i64 ((rd_T30 l0 x21_2).f0.f1), .int .i64 ((rd_T30 l0 x21_2).f1), .int .i64 ((rd_T30 l0 x21_2).f2.f0), .int .i64 ((rd_T30 l0 x21_2).f2.f1), .int .i64 0, .int .i64 0, .int .i64 0, .int .i64 0, .int .i64 0, .bool false, .string (⟨#[]⟩ : ByteArray)]) ?_ 5 _ rfl; (with_reducible repeat (first | refine blk_drewN ?_ _ | refine blk_drew ?_ | refine blk_alloc ?_ _)); refine blk_put (cs := #[.int .i64 ((rd_T30 l0 x21_2).f0.f0), .int .i64 ((rd_T30 l0 x21_2).f0.f1), .int .i64 ((rd_T30 l0 x21_2).f1), .int .i64 ((rd_T30 l0 x21_2).f2.f0), .int .i64 0, .int .i64 0, .int .i64 0, .int .i64 0, .int .i64 0, .int .i64 0, .bool false, .string (⟨#[]⟩ : ByteArray)]) ?_ 4 _ rfl; (with_reducible repeat (first | refine blk_drewN ?_ _ | refine blk_drew ?_ | refine blk_alloc ?_ _)); refine blk_put (cs := #[.int .i64 ((rd_T30 l0 x21_2).f0.f0), .int .i64 ((rd_T30 l0 x21_2).f0.f1), .int .i64 ((rd_T30 l0 x21_2).f1), .int .i64 0, .int .i64 0, .int .i64 0, .int .i64 0, .int .i64 0, .int .i64 0, .int .i64 0, .bool false, .string (⟨#[]⟩ : ByteArray)]) ?_ 3 _ rfl; (with_reducible repeat (first | refine blk_drewN ?_ _ | refine blk_drew ?_ | refine blk_alloc ?_ _)); refine blk_put (cs := #[.int .i64 ((rd_T30 l0 x21_2).f0.f0), .int .i64 ((rd_T30 l0 x21_2).f0.f1), .int .i64 0, .int .i64 0, .int .i64 0, .int .i64 0, .int .i64 0, .int .i64 0, .int .i64 0, .int .i64 0, .bool false, .string (⟨#[]⟩ : ByteArray)]) ?_ 2 _ rfl; (with_reducible repeat (first | refine blk_drewN ?_ _ | refine blk_drew ?_ | refine blk_alloc ?_ _)); refine blk_put (cs := #[.int .i64 ((rd_T30 l0 x21_2).f0.f0), .int .i64 0, .int .i64 0, .int .i64 0, .int .i64 0, .int .i64 0, .int .i64 0, .int .i64 0, .int .i64 0, .int .i64 0, .bool false, .string (⟨#[]⟩ : ByteArray)]) ?_ 1 _ rfl; (with_reducible repeat (first | refine blk_drewN ?_ _ | refine blk_drew ?_ | refine blk_alloc ?_ _)); refine blk_put (cs := #[.int .i64 0, .int .i64 0, .int .i64 0, .int .i64 0, .int .i64 0, .int .i64 0, .int .i64 0, .int .i64 0, .int .i64 0, .int .i64 0, .bool false, .string (⟨#[]⟩ : ByteArray)]) ?_ 0 _ rfl; (with_reducible repeat (first | refine blk_drewN ?_ _ | refine blk_drew ?_ | refine blk_alloc ?_ _)); exact BK202.out) hb); have n2_ := Aside0.mk (below_step (by repeat (first | (with_reducible first | exact HB.out | apply below_alloc | apply pw_below_drewN | apply below_drew1 | refine below_set ?_ GE202.out) | exact HB.out)) hb); clear HO_7; clear BK202; clear HB; have HO_7 := n0_; have BK202 := n1_; have HB := n2_; clear n0_ n1_ n2_; (try clear hb); (try clear hb2); (try clear hk); (try clear hi); have hcz22_0 : w21.cell? ⟨gb202, 0, none⟩ = some (.int .i64 ((rd_T30 l0 x21_2).f0.f0)) := (blk_cell BK202.out 0).trans rfl; have hcz22_1 : w21.cell? ⟨gb202, 1, none⟩ = some (.int .i64 ((rd_T30 l0 x21_2).f0.f1)) := (blk_cell BK202.out 1).trans rfl; have hcz22_2 : w21.cell? ⟨gb202, 2, none⟩ = some (.int .i64 ((rd_T30 l0 x21_2).f1)) := (blk_cell BK202.out 2).trans rfl; have hcz22_3 : w21.cell? ⟨gb202, 3, none⟩ = some (.int .i64 ((rd_T30 l0 x21_2).f2.f0)) := (blk_cell BK202.out 3).trans rfl; have hcz22_4 : w21.cell? ⟨gb202, 4, none⟩ = some (.int .i64 ((rd_T30 l0 x21_2).f2.f1)) := (blk_cell BK202.out 4).trans rfl; have hcz22_5 : w21.cell? ⟨gb202, 5, none⟩ = some (.int .i64 ((rd_T30 l0 x21_2).f3.f0)) := (blk_cell BK202.out 5).trans rfl; have hcz22_6 : w21.cell? ⟨gb202, 6, none⟩ = some (.int .i64 ((rd_T30 l0 x21_2).f3.f1)) := (blk_cell BK202.out 6).trans rfl; have hcz22_7 : w21.cell? ⟨gb202, 7, none⟩ = some (.int .i64 ((rd_T30 l0 x21_2).f4.f0)) := (blk_cell BK202.out 7).trans rfl; have hcz22_8 : w21.cell? ⟨gb202, 8, none⟩ = some (.int .i64 ((rd_T30 l0 x21_2).f4.f1)) := (blk_cell BK202.out 8).trans rfl; have hcz22_9 : w21.cell? ⟨gb202, 9, none⟩ = some (.int .i64 ((rd_T30 l0 x21_2).f5)) := (blk_cell BK202.out 9).trans rfl; have hcz22_10 : w21.cell? ⟨gb202, 10, none⟩ = some (.bool ((rd_T30 l0 x21_2).f6)) := (blk_cell BK202.out 10).trans rfl; have hcz22_11 : w21.cell? ⟨gb202, 11, none⟩ = some (.string ((rd_T30 l0 x21_2).f7)) := (blk_cell BK202.out 11).trans rfl; have hfz22_0 := blk_frozen BK202.out 0; have hfz22_1 := blk_frozen BK202.out 1; have hfz22_2 := blk_frozen BK202.out 2; have hfz22_3 := blk_frozen BK202.out 3; have hfz22_4 := blk_frozen BK202.out 4; have hfz22_5 := blk_frozen BK202.out 5; have hfz22_6 := blk_frozen BK202.out 6; have hfz22_7 := blk_frozen BK202.out 7; have hfz22_8 := blk_frozen BK202.out 8; have hfz22_9 := blk_frozen BK202.out 9; have hfz22_10 := blk_frozen BK202.out 10; have hfz22_11 := blk_frozen BK202.out 11) | ((with_reducible refine gate_builtin (b := .append) (xs := #[.tmp 31, .tmp 33]) rfl ?_); at_builtin; refine Kd.R_append k30 (w0 := w) w.heap.size rfl (.tmp 31) (.tmp 33) 36 30 (.agg #[(.int .i64 0), (.int .i64 0), (.int .i64 0), (.int .i64 0), (.int .i64 0), (.int .i64 0), (.int .i64 0), (.int .i64 0), (.int .i64 0), (.int .i64 0), (.bool false), (.string ⟨#[]⟩)]) 104 rfl Try.underlying36 info30 rfl (by decide) (by omega) u7 x7_2 (⟨(⟨(rd_T30 l0 x21_2).f0.f0, (rd_T30 l0 x21_2).f0.f1⟩ : S28), (rd_T30 l0 x21_2).f1, (⟨(rd_T30 l0 x21_2).f2.f0, (rd_T30 l0 x21_2).f2.f1⟩ : S28), (⟨(rd_T30 l0 x21_2).f3.f0, (rd_T30 l0 x21_2).f3.f1⟩ : S28), (⟨(rd_T30 l0 x21_2).f4.f0, (rd_T30 l0 x21_2).f4.f1⟩ : S28), (rd_T30 l0 x21_2).f5, (rd_T30 l0 x21_2).f6, (rd_T30 l0 x21_2).f7⟩ : S30) [.int .i64 ((rd_T30 l0 x21_2).f0.f0), .int .i64 ((rd_T30 l0 x21_2).f0.f1), .int .i64 ((rd_T30 l0 x21_2).f1), .int .i64 ((rd_T30 l0 x21_2).f2.f0), .int .i64 ((rd_T30 l0 x21_2).f2.f1), .int .i64 ((rd_T30 l0 x21_2).f3.f0), .int .i64 ((rd_T30 l0 x21_2).f3.f1), .int .i64 ((rd_T30 l0 x21_2).f4.f0), .int .i64 ((rd_T30 l0 x21_2).f4.f1), .int .i64 ((rd_T30 l0 x21_2).f5), .bool ((rd_T30 l0 x21_2).f6), .string ((rd_T30 l0 x21_2).f7)] (fun k_ => k_ ≠ gb202) (fun _ => False) rfl rfl ?aP (fun _ hk => hk.elim) ?aF ?aO ?aB ?aS ?aL ?_; (case aP => exact k30_mkM _ _ _ (⟨(⟨(rd_T30 l0 x21_2).f0.f0, (rd_T30 l0 x21_2).f0.f1⟩ : S28), (rd_T30 l0 x21_2).f1, (⟨(rd_T30 l0 x21_2).f2.f0, (rd_T30 l0 x21_2).f2.f1⟩ : S28), (⟨(rd_T30 l0 x21_2).f3.f0, (rd_T30 l0 x21_2).f3.f1⟩ : S28), (⟨(rd_T30 l0 x21_2).f4.f0, (rd_T30 l0 x21_2).f4.f1⟩ : S28), (rd_T30 l0 x21_2).f5, (rd_T30 l0 x21_2).f6, (rd_T30 l0 x21_2).f7⟩ : S30)); (case aB => exact (by repeat (first | (with_reducible first | exact HB.out | apply below_alloc | apply pw_below_drewN | apply below_drew1 | refine below_set ?_ GE202.out) | exact HB.out))); (case aF => exact (fun k_ hk => Kd.freshB (g := gb202) (o := .cells #[.int .i64 ((rd_T30 l0 x21_2).f0.f0), .int .i64 ((rd_T30 l0 x21_2).f0.f1), .int .i64 ((rd_T30 l0 x21_2).f1), .int .i64 ((rd_T30 l0 x21_2).f2.f0), .int .i64 ((rd_T30 l0 x21_2).f2.f1), .int .i64 ((rd_T30 l0 x21_2).f3.f0), .int .i64 ((rd_T30 l0 x21_2).f3.f1), .int .i64 ((rd_T30 l0 x21_2).f4.f0), .int .i64 ((rd_T30 l0 x21_2).f4.f1), .int .i64 ((rd_T30 l0 x21_2).f5), .bool ((rd_T30 l0 x21_2).f6), .string ((rd_T30 l0 x21_2).f7)] 30 (0, 0)) (by (with_reducible repeat (first | refine blk_drewN ?_ _ | refine blk_drew ?_ | refine blk_alloc ?_ _)); exact BK202.out) k_ hk)); (case aO => exact (by (with_reducible repeat (first | apply Kd.R_alloc | apply Kd.R_drewN | apply Kd.R_drew)); exact Kd.R_mono HO_7.out (fun _ hk => hk.2))); (case aS => exact (below_size (by repeat (first | (with_reducible first | exact HB.out | apply below_alloc | apply pw_below_drewN | apply below_drew1 | refine below_set ?_ GE202.out) | exact HB.out)))); (case aL => have := LMc18.out; omega); intro v205 w23 ho hb hg hat; rw [← Ny204.out] at ho; have n0_ := Aside0.mk (blk_grown (g := gb202) (o := .cells #[.int .i64 ((rd_T30 l0 x21_2).f0.f0), .int .i64 ((rd_T30 l0 x21_2).f0.f1), .int .i64 ((rd_T30 l0 x21_2).f1), .int .i64 ((rd_T30 l0 x21_2).f2.f0), .int .i64 ((rd_T30 l0 x21_2).f2.f1), .int .i64 ((rd_T30 l0 x21_2).f3.f0), .int .i64 ((rd_T30 l0 x21_2).f3.f1), .int .i64 ((rd_T30 l0 x21_2).f4.f0), .int .i64 ((rd_T30 l0 x21_2).f4.f1), .int .i64 ((rd_T30 l0 x21_2).f5), .bool ((rd_T30 l0 x21_2).f6), .string ((rd_T30 l0 x21_2).f7)] 30 (0, 0)) (by (with_reducible repeat (first | refine blk_drewN ?_ _ | refine blk_drew ?_ | refine blk_alloc ?_ _)); exact BK202.out) hg (Kd.R_away HO_7.out (fun _ hk => hk.2))); have n1_ := Aside0.mk (hb); have n2_ := Aside0.mk (ho); clear BK202; clear HB; clear HO_7; have BK202 := n0_; have HB := n1_; have HO206 := n2_; clear n0_ n1_ n2_; clear ho hb hg hat))
           go_roundg k2
           case measure => have := HJ3.out; have := HK2.out; omega
           case rel => exact ⟨(y204), (wrap64 (x21_2 + 1)), (by first | rfl | (simp; done) | (simp [*]; done)), H', ⟨by have := HJ3.out; have := HK2.out; omega⟩, ⟨by (with_reducible repeat (first | apply Kd.R_alloc | apply Kd.R_drewN | apply Kd.R_drew)); exact Kd.R_mono HO206.out (fun _ hk => trivial)⟩, ⟨by repeat (first | (with_reducible first | exact HB.out | apply below_alloc | apply pw_below_drewN | apply below_drew1 | refine below_set ?_ GE202.out) | exact HB.out)⟩⟩
          ·rw [if_neg c18] at H
           exact absurd H (by simp)
         ·rw [if_neg c17] at H
          have c17b0 : (t203 == a2) = false := by simpa using c17
          (try (have c17b1 : decide (t203 = a2) = false := by simpa using c17))
          (try (have c17b2 : (t203 == a2) = false := by simpa using c17))
          (try (have c17b3 : ¬ (t203 = a2) := by simpa using c17))
          clear c17
          have H' := Aside0.mk H
          clear H
          have p201 : 0 ≤ (x21_2 : Int) := of_decide_eq_true (by first | (with_reducible assumption) | assumption)
          have q201 : x21_2 < (l0.length : Int) := of_decide_eq_true (by first | (with_reducible assumption) | assumption)
          obtain ⟨ad201, e201, hx201_0, hx201_1, hx201_2, hx201_3, hx201_4, hx201_5, hx201_6, hx201_7, hx201_8, hx201_9, hx201_10, hx201_11⟩ := at_T30 HR0.out x21_2 p201 q201
          cases e201
          replace hx201_0 := (HB.out.cell (World.block_lt_of_cell? w _ hx201_0)).trans hx201_0
          replace hx201_1 := (HB.out.cell (World.block_lt_of_cell? w _ hx201_1)).trans hx201_1
          replace hx201_2 := (HB.out.cell (World.block_lt_of_cell? w _ hx201_2)).trans hx201_2
          replace hx201_3 := (HB.out.cell (World.block_lt_of_cell? w _ hx201_3)).trans hx201_3
          replace hx201_4 := (HB.out.cell (World.block_lt_of_cell? w _ hx201_4)).trans hx201_4
          replace hx201_5 := (HB.out.cell (World.block_lt_of_cell? w _ hx201_5)).trans hx201_5
          replace hx201_6 := (HB.out.cell (World.block_lt_of_cell? w _ hx201_6)).trans hx201_6
          replace hx201_7 := (HB.out.cell (World.block_lt_of_cell? w _ hx201_7)).trans hx201_7
          replace hx201_8 := (HB.out.cell (World.block_lt_of_cell? w _ hx201_8)).trans hx201_8
          replace hx201_9 := (HB.out.cell (World.block_lt_of_cell? w _ hx201_9)).trans hx201_9
          replace hx201_10 := (HB.out.cell (World.block_lt_of_cell? w _ hx201_10)).trans hx201_10
          replace hx201_11 := (HB.out.cell (World.block_lt_of_cell? w _ hx201_11)).trans hx201_11
          replace p201 := eq_true p201
          replace q201 := eq_true q201
          go_wp2_with (first | ((with_reducible refine gate_dst (N := 9) rfl ?_); refine box_event ?hg (N := 9) ?hd (cs := #[.int .i64 0, .int .i64 0, .int .i64 0, .int .i64 0, .int .i64 0, .int .i64 0, .int .i64 0, .int .i64 0, .int .i64 0, .int .i64 0, .bool false, .string (⟨#[]⟩ : ByteArray)]) (t := 30) ?hr ?_; (case hd => rfl); (case hg => rfl); (case hr => first | (go_simp; done) | (go_simp; rfl)); intro gb202 hg w24 hbox hb; have n0_ := Aside0.mk (Kd.R_below (Kd.R_elderB (by (with_reducible repeat (first | apply Kd.R_alloc | apply Kd.R_drewN | apply Kd.R_drew)); exact HO_7.out) gb202 (Nat.le_of_eq hg.symm)) hb); have n1_ := Aside0.mk (below_step (by repeat (first | (with_reducible first | exact HB.out | apply below_alloc | apply pw_below_drewN | apply below_drew1) | exact HB.out)) hb); have n2_ := Aside0.mk (hbox); have n3_ := Aside0.mk ((by rw [hg]; exact (below_size (by repeat (first | (with_reducible first | exact HB.out | apply below_alloc | apply pw_below_drewN | apply below_drew1) | exact HB.out))) : w.heap.size ≤ gb202)); have n4_ := Aside0.mk ((by rw [hg]; exact (below_size (by repeat (first | (with_reducible first | exact HB.out | apply below_alloc | apply pw_below_drewN | apply below_drew1) | exact HB.out))) : w.heap.size ≤ gb202)); clear HO_7; clear HB; have HO_7 := n0_; have HB := n1_; have BK202 := n2_; have GW202 := n3_; have GE202 := n4_; clear n0_ n1_ n2_ n3_ n4_; clear hb hbox hg; have hcz25_0 : w24.cell? ⟨gb202, 0, none⟩ = some (.int .i64 0) := (blk_cell BK202.out 0).trans rfl; have hcz25_1 : w24.cell? ⟨gb202, 1, none⟩ = some (.int .i64 0) := (blk_cell BK202.out 1).trans rfl; have hcz25_2 : w24.cell? ⟨gb202, 2, none⟩ = some (.int .i64 0) := (blk_cell BK202.out 2).trans rfl; have hcz25_3 : w24.cell? ⟨gb202, 3, none⟩ = some (.int .i64 0) := (blk_cell BK202.out 3).trans rfl; have hcz25_4 : w24.cell? ⟨gb202, 4, none⟩ = some (.int .i64 0) := (blk_cell BK202.out 4).trans rfl; have hcz25_5 : w24.cell? ⟨gb202, 5, none⟩ = some (.int .i64 0) := (blk_cell BK202.out 5).trans rfl; have hcz25_6 : w24.cell? ⟨gb202, 6, none⟩ = some (.int .i64 0) := (blk_cell BK202.out 6).trans rfl; have hcz25_7 : w24.cell? ⟨gb202, 7, none⟩ = some (.int .i64 0) := (blk_cell BK202.out 7).trans rfl; have hcz25_8 : w24.cell? ⟨gb202, 8, none⟩ = some (.int .i64 0) := (blk_cell BK202.out 8).trans rfl; have hcz25_9 : w24.cell? ⟨gb202, 9, none⟩ = some (.int .i64 0) := (blk_cell BK202.out 9).trans rfl; have hcz25_10 : w24.cell? ⟨gb202, 10, none⟩ = some (.bool false) := (blk_cell BK202.out 10).trans rfl; have hcz25_11 : w24.cell? ⟨gb202, 11, none⟩ = some (.string (⟨#[]⟩ : ByteArray)) := (blk_cell BK202.out 11).trans rfl; have hfz25_0 := blk_frozen BK202.out 0; have hfz25_1 := blk_frozen BK202.out 1; have hfz25_2 := blk_frozen BK202.out 2; have hfz25_3 := blk_frozen BK202.out 3; have hfz25_4 := blk_frozen BK202.out 4; have hfz25_5 := blk_frozen BK202.out 5; have hfz25_6 := blk_frozen BK202.out 6; have hfz25_7 := blk_frozen BK202.out 7; have hfz25_8 := blk_frozen BK202.out 8; have hfz25_9 := blk_frozen BK202.out 9; have hfz25_10 := blk_frozen BK202.out 10; have hfz25_11 := blk_frozen BK202.out 11) | ((with_reducible refine gate_callee (f := 70) rfl ?_); refine goesL_ (some 28) rfl rfl Try.func70 (by kernel_rfl) rfl #[.slice A1 l1.length c1, .agg #[.int .i64 ((rd_T30 l0 x21_2).f0.f0), .int .i64 ((rd_T30 l0 x21_2).f0.f1)]] rfl (by (try simp only [List.map_toArray, List.map_cons, List.map_nil]); first | done | rfl | (simp only [List.length_drop, List.length_take]; rfl)) ?_; (with_reducible refine (impl_VectorContains.calls k2 _ _ l1 ((rd_T30 l0 x21_2).f0.f0) ((rd_T30 l0 x21_2).f0.f1) t203 _ ?side1 ?side2 A16.out).mono ?_); (case side1 => exact Kd.C_below HR1.out (by repeat (first | (with_reducible first | exact HB.out | apply below_alloc | apply pw_below_drewN | apply below_drew1 | refine below_set ?_ GE202.out) | exact HB.out))); (case side2 => exact HC1.out); rintro e w26 ⟨rfl, hb⟩; refine ⟨_, rfl, ?_⟩; have n0_ := Aside0.mk (Kd.R_below (by (with_reducible repeat (first | apply Kd.R_alloc | apply Kd.R_drewN | apply Kd.R_drew)); exact (Kd.R_mono (Kd.R_far (p := ⟨gb202, 11, none⟩) (Kd.R_far (p := ⟨gb202, 10, none⟩) (Kd.R_far (p := ⟨gb202, 9, none⟩) (Kd.R_far (p := ⟨gb202, 8, none⟩) (Kd.R_far (p := ⟨gb202, 7, none⟩) (Kd.R_far (p := ⟨gb202, 6, none⟩) (Kd.R_far (p := ⟨gb202, 5, none⟩) (Kd.R_far (p := ⟨gb202, 4, none⟩) (Kd.R_far (p := ⟨gb202, 3, none⟩) (Kd.R_far (p := ⟨gb202, 2, none⟩) (Kd.R_far (p := ⟨gb202, 1, none⟩) (Kd.R_far (p := ⟨gb202, 0, none⟩) (Kd.R_mono HO_7.out (fun k_ hk => (⟨hk, hk.2⟩ : _ ∧ k_ ≠ gb202))) (fun _ hk => hk.2) (.int .i64 ((rd_T30 l0 x21_2).f0.f0))) (fun _ hk => hk.2) (.int .i64 ((rd_T30 l0 x21_2).f0.f1))) (fun _ hk => hk.2) (.int .i64 ((rd_T30 l0 x21_2).f1))) (fun _ hk => hk.2) (.int .i64 ((rd_T30 l0 x21_2).f2.f0))) (fun _ hk => hk.2) (.int .i64 ((rd_T30 l0 x21_2).f2.f1))) (fun _ hk => hk.2) (.int .i64 ((rd_T30 l0 x21_2).f3.f0))) (fun _ hk => hk.2) (.int .i64 ((rd_T30 l0 x21_2).f3.f1))) (fun _ hk => hk.2) (.int .i64 ((rd_T30 l0 x21_2).f4.f0))) (fun _ hk => hk.2) (.int .i64 ((rd_T30 l0 x21_2).f4.f1))) (fun _ hk => hk.2) (.int .i64 ((rd_T30 l0 x21_2).f5))) (fun _ hk => hk.2) (.bool ((rd_T30 l0 x21_2).f6))) (fun _ hk => hk.2) (.string ((rd_T30 l0 x21_2).f7))) (fun _ h_ => h_.1))) hb); have n1_ := Aside0.mk (blk_below (g := gb202) (o := .cells #[.int .i64 ((rd_T30 l0 x21_2).f0.f0), .int .i64 ((rd_T30 l0 x21_2).f0.f1), .int .i64 ((rd_T30 l0 x21_2).f1), .int .i64 ((rd_T30 l0 x21_2).f2.f0), .int .i64 ((rd_T30 l0 x21_2).f2.f1), .int .i64 ((rd_T30 l0 x21_2).f3.f0), .int .i64 ((rd_T30 l0 x21_2).f3.f1), .int .i64 ((rd_T30 l0 x21_2).f4.f0), .int .i64 ((rd_T30 l0 x21_2).f4.f1), .int .i64 ((rd_T30 l0 x21_2).f5), .bool ((rd_T30 l0 x21_2).f6), .string ((rd_T30 l0 x21_2).f7)] 30 (0, 0)) (by (with_reducible repeat (first | refine blk_drewN ?_ _ | refine blk_drew ?_ | refine blk_alloc ?_ _)); refine blk_put (cs := #[.int .i64 ((rd_T30 l0 x21_2).f0.f0), .int .i64 ((rd_T30 l0 x21_2).f0.f1), .int .i64 ((rd_T30 l0 x21_2).f1), .int .i64 ((rd_T30 l0 x21_2).f2.f0), .int .i64 ((rd_T30 l0 x21_2).f2.f1), .int .i64 ((rd_T30 l0 x21_2).f3.f0), .int .i64 ((rd_T30 l0 x21_2).f3.f1), .int .i64 ((rd_T30 l0 x21_2).f4.f0), .int .i64 ((rd_T30 l0 x21_2).f4.f1), .int .i64 ((rd_T30 l0 x21_2).f5), .bool ((rd_T30 l0 x21_2).f6), .string (⟨#[]⟩ : ByteArray)]) ?_ 11 _ rfl; (with_reducible repeat (first | refine blk_drewN ?_ _ | refine blk_drew ?_ | refine blk_alloc ?_ _)); refine blk_put (cs := #[.int .i64 ((rd_T30 l0 x21_2).f0.f0), .int .i64 ((rd_T30 l0 x21_2).f0.f1), .int .i64 ((rd_T30 l0 x21_2).f1), .int .i64 ((rd_T30 l0 x21_2).f2.f0), .int .i64 ((rd_T30 l0 x21_2).f2.f1), .int .i64 ((rd_T30 l0 x21_2).f3.f0), .int .i64 ((rd_T30 l0 x21_2).f3.f1), .int .i64 ((rd_T30 l0 x21_2).f4.f0), .int .i64 ((rd_T30 l0 x21_2).f4.f1), .int .i64 ((rd_T30 l0 x21_2).f5), .bool false, .string (⟨#[]⟩ : ByteArray)]) ?_ 10 _ rfl; (with_reducible repeat (first | refine blk_drewN ?_ _ | refine blk_drew ?_ | refine blk_alloc ?_ _)); refine blk_put (cs := #[.int .i64 ((rd_T30 l0 x21_2).f0.f0), .int .i64 ((rd_T30 l0 x21_2).f0.f1), .int .i64 ((rd_T30 l0 x21_2).f1), .int .i64 ((rd_T30 l0 x21_2).f2.f0), .int .i64 ((rd_T30 l0 x21_2).f2.f1), .int .i64 ((rd_T30 l0 x21_2).f3.f0), .int .i64 ((rd_T30 l0 x21_2).f3.f1), .int .i64 ((rd_T30 l0 x21_2).f4.f0), .int .i64 ((rd_T30 l0 x21_2).f4.f1), .int .i64 0, .bool false, .string (⟨#[]⟩ : ByteArray)]) ?_ 9 _ rfl; (with_reducible repeat (first | refine blk_drewN ?_ _ | refine blk_drew ?_ | refine blk_alloc ?_ _)); refine blk_put (cs := #[.int .i64 ((rd_T30 l0 x21_2).f0.f0), .int .i64 ((rd_T30 l0 x21_2).f0.f1), .int .i64 ((rd_T30 l0 x21_2).f1), .int .i64 ((rd_T30 l0 x21_2).f2.f0), .int .i64 ((rd_T30 l0 x21_2).f2.f1), .int .i64 ((rd_T30 l0 x21_2).f3.f0), .int .i64 ((rd_T30 l0 x21_2).f3.f1), .int .i64 ((rd_T30 l0 x21_2).f4.f0), .int .i64 0, .int .i64 0, .bool false, .string (⟨#[]⟩ : ByteArray)]) ?_ 8 _ rfl; (with_reducible repeat (first | refine blk_drewN ?_ _ | refine blk_drew ?_ | refine blk_alloc ?_ _)); refine blk_put (cs := #[.int .i64 ((rd_T30 l0 x21_2).f0.f0), .int .i64 ((rd_T30 l0 x21_2).f0.f1), .int .i64 ((rd_T30 l0 x21_2).f1), .int .i64 ((rd_T30 l0 x21_2).f2.f0), .int .i64 ((rd_T30 l0 x21_2).f2.f1), .int .i64 ((rd_T30 l0 x21_2).f3.f0), .int .i64 ((rd_T30 l0 x21_2).f3.f1), .int .i64 0, .int .i64 0, .int .i64 0, .bool false, .string (⟨#[]⟩ : ByteArray)]) ?_ 7 _ rfl; (with_reducible repeat (first | refine blk_drewN ?_ _ | refine blk_drew ?_ | refine blk_alloc ?_ _)); refine blk_put (cs := #[.int .i64 ((rd_T30 l0 x21_2).f0.f0), .int .i64 ((rd_T30 l0 x21_2).f0.f1), .int .i64 ((rd_T30 l0 x21_2).f1), .int .i64 ((rd_T30 l0 x21_2).f2.f0), .int .i64 ((rd_T30 l0 x21_2).f2.f1), .int .i64 ((rd_T30 l0 x21_2).f3.f0), .int .i64 0, .int .i64 0, .int .i64 0, .int .i64 0, .bool false, .string (⟨#[]⟩ : ByteArray)]) ?_ 6 _ rfl; (with_reducible repeat (first | refine blk_drewN ?_ _ | refine blk_drew ?_ | refine blk_alloc ?_ _)); refine blk_put (cs := #[.int .i64 ((rd_T30 l0 x21_2).f0.f0), .int .i64 ((rd_T30 l0 x21_2).f0.f1), .int .i64 ((rd_T30 l0 x21_2).f1), .int .i64 ((rd_T30 l0 x21_2).f2.f0), .int .i64 ((rd_T30 l0 x21_2).f2.f1), .int .i64 0, .int .i64 0, .int .i64 0, .int .i64 0, .int .i64 0, .bool false, .string (⟨#[]⟩ : ByteArray)]) ?_ 5 _ rfl; (with_reducible repeat (first | refine blk_drewN ?_ _ | refine blk_drew ?_ | refine blk_alloc ?_ _)); refine blk_put (cs := #[.int .i64 ((rd_T30 l0 x21_2).f0.f0), .int .i64 ((rd_T30 l0 x21_2).f0.f1), .int .i64 ((rd_T30 l0 x21_2).f1), .int .i64 ((rd_T30 l0 x21_2).f2.f0), .int .i64 0, .int .i64 0, .int .i64 0, .int .i64 0, .int .i64 0, .int .i64 0, .bool false, .string (⟨#[]⟩ : ByteArray)]) ?_ 4 _ rfl; (with_reducible repeat (first | refine blk_drewN ?_ _ | refine blk_drew ?_ | refine blk_alloc ?_ _)); refine blk_put (cs := #[.int .i64 ((rd_T30 l0 x21_2).f0.f0), .int .i64 ((rd_T30 l0 x21_2).f0.f1), .int .i64 ((rd_T30 l0 x21_2).f1), .int .i64 0, .int .i64 0, .int .i64 0, .int .i64 0, .int .i64 0, .int .i64 0, .int .i64 0, .bool false, .string (⟨#[]⟩ : ByteArray)]) ?_ 3 _ rfl; (with_reducible repeat (first | refine blk_drewN ?_ _ | refine blk_drew ?_ | refine blk_alloc ?_ _)); refine blk_put (cs := #[.int .i64 ((rd_T30 l0 x21_2).f0.f0), .int .i64 ((rd_T30 l0 x21_2).f0.f1), .int .i64 0, .int .i64 0, .int .i64 0, .int .i64 0, .int .i64 0, .int .i64 0, .int .i64 0, .int .i64 0, .bool false, .string (⟨#[]⟩ : ByteArray)]) ?_ 2 _ rfl; (with_reducible repeat (first | refine blk_drewN ?_ _ | refine blk_drew ?_ | refine blk_alloc ?_ _)); refine blk_put (cs := #[.int .i64 ((rd_T30 l0 x21_2).f0.f0), .int .i64 0, .int .i64 0, .int .i64 0, .int .i64 0, .int .i64 0, .int .i64 0, .int .i64 0, .int .i64 0, .int .i64 0, .bool false, .string (⟨#[]⟩ : ByteArray)]) ?_ 1 _ rfl; (with_reducible repeat (first | refine blk_drewN ?_ _ | refine blk_drew ?_ | refine blk_alloc ?_ _)); refine blk_put (cs := #[.int .i64 0, .int .i64 0, .int .i64 0, .int .i64 0, .int .i64 0, .int .i64 0, .int .i64 0, .int .i64 0, .int .i64 0, .int .i64 0, .bool false, .string (⟨#[]⟩ : ByteArray)]) ?_ 0 _ rfl; (with_reducible repeat (first | refine blk_drewN ?_ _ | refine blk_drew ?_ | refine blk_alloc ?_ _)); exact BK202.out) hb); have n2_ := Aside0.mk (below_step (by repeat (first | (with_reducible first | exact HB.out | apply below_alloc | apply pw_below_drewN | apply below_drew1 | refine below_set ?_ GE202.out) | exact HB.out)) hb); clear HO_7; clear BK202; clear HB; have HO_7 := n0_; have BK202 := n1_; have HB := n2_; clear n0_ n1_ n2_; (try clear hb); (try clear hb2); (try clear hk); (try clear hi)))
          go_roundg k2
          case measure => have := HJ3.out; have := HK2.out; omega
          case rel => exact ⟨(x7_2), (wrap64 (x21_2 + 1)), (by first | rfl | (simp; done) | (simp [*]; done)), H', ⟨by have := HJ3.out; have := HK2.out; omega⟩, ⟨by (with_reducible repeat (first | apply Kd.R_alloc | apply Kd.R_drewN | apply Kd.R_drew)); exact Kd.R_mono HO_7.out (fun _ hk => trivial)⟩, ⟨by repeat (first | (with_reducible first | exact HB.out | apply below_alloc | apply pw_below_drewN | apply below_drew1 | refine below_set ?_ GE202.out) | exact HB.out)⟩⟩
        ·rw [if_neg c15] at H
         exact absurd H (by simp)
       ·rw [if_neg c14] at H
        exact absurd H (by simp)
      ·rw [if_neg c13] at H
       have c13b0 : decide (x21_2 < (l0.length : Int)) = false := decide_eq_false c13
       clear c13
       obtain rfl := Option.some.inj H
       go_wp2
       go_ret
       exact ⟨_, by first | rfl | (simp [errW_none, errW_some] <;> rfl) | (simp [*, errW_none, errW_some] <;> rfl), by (with_reducible repeat (first | apply Kd.R_alloc | apply Kd.R_drewN | apply Kd.R_drew)); exact HO_7.out, by repeat (first | (with_reducible first | exact HB.out | apply below_alloc | apply pw_below_drewN | apply below_drew1) | exact HB.out)⟩

end Go.Proofs.Ytomigiindmojkaa.QK

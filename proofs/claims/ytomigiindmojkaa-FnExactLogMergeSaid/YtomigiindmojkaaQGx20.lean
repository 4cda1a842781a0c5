/- A call of each function named here does what the Lean function of that name says. Conditions: each theorem's premises. Printed by the kit, repaired by a program, joined with texts by hand. -/
import Derived.Test.YtomigiindmojkaaQGx0
import Derived.Test.YtomigiindmojkaaQGx8
import Derived.Test.YtomigiindmojkaaQGx17
import Derived.Test.YtomigiindmojkaaQGx18
import Derived.Test.YtomigiindmojkaaQGx19
namespace Go.Proofs.Ytomigiindmojkaa.QG
open Go.Proofs.Ytomigiindmojkaa.Base Go.RowKit Go.Proofs.YtomigiindmojkaaW.PrintWords Go.Proofs.YtomigiindmojkaaW.PrintLast Go.Proofs.YtomigiindmojkaaW.PrintMore
attribute [local go_sem] max2_int min2_int max_two min_two max_three min_three max_four min_four   -- for this text's walks alone
set_option linter.unusedVariables false
set_option linter.unusedSimpArgs false

/-! ### impl_LogMerge: function 40 -/
mutual
def impl_LogMerge.j0 : Nat → List (S30) → List (S30) → Bool → Option ((List (S30)) × Bool)
 | 0, _, _, _ => none
 | k + 1, x0, x1, x16 => if x16 = true then (some (([] : List (S30)), false)) else ((some (([] : List (S30)) : List (S30))).bind fun y260 => (if y260.length + x0.length < 1353245080339 then (impl_LogMerge.l0 k x0 (y260 ++ x0) x1 (x1.length : Int) 0) else (none)))
def impl_LogMerge.l0 : Nat → List (S30) → List (S30) → List (S30) → Int → Int → Option ((List (S30)) × Bool)
 | 0, _, _, _, _, _ => none
 | k + 1, x0, x6, x20, x21, x22 => if x22 < x21 then (if 0 ≤ x22 then (if x22 < (x20.length : Int) then ((impl_opAt.f k x0 ((rd_T30 x20 x22).f0.f0) ((rd_T30 x20 x22).f0.f1)).bind fun t274 => (if t274 < 0 then ((impl_inserted.f k x6 ((rd_T30 x20 x22).f0.f0) ((rd_T30 x20 x22).f0.f1) ((rd_T30 x20 x22).f1) ((rd_T30 x20 x22).f2.f0) ((rd_T30 x20 x22).f2.f1) ((rd_T30 x20 x22).f3.f0) ((rd_T30 x20 x22).f3.f1) ((rd_T30 x20 x22).f4.f0) ((rd_T30 x20 x22).f4.f1) ((rd_T30 x20 x22).f5) ((rd_T30 x20 x22).f6) ((rd_T30 x20 x22).f7)).bind fun t275 => (impl_LogMerge.l0 k x0 t275 x20 x21 (wrap64 (x22 + 1)))) else (impl_LogMerge.l0 k x0 x6 x20 x21 (wrap64 (x22 + 1))))) else (none)) else (none)) else (if (x6.length : Int) > 40 then ((some (([] : List (S30)) : List (S30))).bind fun y266 => (if y266.length + x0.length < 1353245080339 then (some ((y266 ++ x0), false)) else (none))) else (some (x6, true)))
end
def impl_LogMerge.f (k : Nat) (l0 : List (S30)) (l1 : List (S30)) : Option ((List (S30)) × Bool) := (impl_ValidLog.f k l0).bind fun t258 => (if t258 = true then ((impl_ValidLog.f k l1).bind fun t259 => (impl_LogMerge.j0 k l0 l1 (!t259))) else (impl_LogMerge.j0 k l0 l1 true))
theorem impl_LogMerge.mono_l : ∀ k, (∀ y0 y1 y2, LeO (impl_LogMerge.j0 k y0 y1 y2) (impl_LogMerge.j0 (k + 1) y0 y1 y2)) ∧ (∀ y0 y1 y2 y3 y4, LeO (impl_LogMerge.l0 k y0 y1 y2 y3 y4) (impl_LogMerge.l0 (k + 1) y0 y1 y2 y3 y4))
 | 0 => ⟨fun _ _ _ r h => by simp [impl_LogMerge.j0] at h, fun _ _ _ _ _ r h => by simp [impl_LogMerge.l0] at h⟩
 | k + 1 => by
  obtain ⟨ih0, ih1⟩ := impl_LogMerge.mono_l k
  refine ⟨?_, ?_⟩
  ·intro y0 y1 y2
   unfold impl_LogMerge.j0
   repeat' first
   | (with_reducible exact ih0 _ _ _)
   | (with_reducible exact ih1 _ _ _ _ _)
   | (with_reducible exact impl_ValidLog.mono _ _)
   | (with_reducible exact impl_inserted.mono _ _ _ _ _ _ _ _ _ _ _ _ _ _)
   | (with_reducible exact impl_opAt.mono _ _ _ _)
   | (with_reducible exact LeO.refl _)
   | (with_reducible exact LeO.none _)
   | (with_reducible refine LeO.ite ?_ ?_)
   | (with_reducible refine LeO.bind ?_ (fun _ => ?_))
   | exact ih0 _ _ _
   | exact ih1 _ _ _ _ _
   | exact impl_ValidLog.mono _ _
   | exact impl_inserted.mono _ _ _ _ _ _ _ _ _ _ _ _ _ _
   | exact impl_opAt.mono _ _ _ _
   | exact LeO.none _
   | refine LeO.ite ?_ ?_
   | refine LeO.bind ?_ (fun _ => ?_)
  ·intro y0 y1 y2 y3 y4
   unfold impl_LogMerge.l0
   repeat' first
   | (with_reducible exact ih0 _ _ _)
   | (with_reducible exact ih1 _ _ _ _ _)
   | (with_reducible exact impl_ValidLog.mono _ _)
   | (with_reducible exact impl_inserted.mono _ _ _ _ _ _ _ _ _ _ _ _ _ _)
   | (with_reducible exact impl_opAt.mono _ _ _ _)
   | (with_reducible exact LeO.refl _)
   | (with_reducible exact LeO.none _)
   | (with_reducible refine LeO.ite ?_ ?_)
   | (with_reducible refine LeO.bind ?_ (fun _ => ?_))
   | exact ih0 _ _ _
   | exact ih1 _ _ _ _ _
   | exact impl_ValidLog.mono _ _
   | exact impl_inserted.mono _ _ _ _ _ _ _ _ _ _ _ _ _ _
   | exact impl_opAt.mono _ _ _ _
   | exact LeO.none _
   | refine LeO.ite ?_ ?_
   | refine LeO.bind ?_ (fun _ => ?_)
theorem impl_LogMerge.mono : ∀ a0 a1 k, LeO (impl_LogMerge.f k a0 a1) (impl_LogMerge.f (k + 1) a0 a1) := by
 intro a0 a1 k
 obtain ⟨ih0, ih1⟩ := impl_LogMerge.mono_l k
 unfold impl_LogMerge.f
 repeat' first
   | (with_reducible exact ih0 _ _ _)
   | (with_reducible exact ih1 _ _ _ _ _)
   | (with_reducible exact impl_ValidLog.mono _ _)
   | (with_reducible exact impl_inserted.mono _ _ _ _ _ _ _ _ _ _ _ _ _ _)
   | (with_reducible exact impl_opAt.mono _ _ _ _)
   | (with_reducible exact LeO.refl _)
   | (with_reducible exact LeO.none _)
   | (with_reducible refine LeO.ite ?_ ?_)
   | (with_reducible refine LeO.bind ?_ (fun _ => ?_))
   | exact ih0 _ _ _
   | exact ih1 _ _ _ _ _
   | exact impl_ValidLog.mono _ _
   | exact impl_inserted.mono _ _ _ _ _ _ _ _ _ _ _ _ _ _
   | exact impl_opAt.mono _ _ _ _
   | exact LeO.none _
   | refine LeO.ite ?_ ?_
   | refine LeO.bind ?_ (fun _ => ?_)
set_option maxHeartbeats 8000000 in
set_option maxRecDepth 100000 in
theorem impl_LogMerge.calls (k : Nat) (A0 : Option Addr) (c0 : Nat) (l0 : List (S30)) (A1 : Option Addr) (c1 : Nat) (l1 : List (S30)) (r1 : List (S30)) (r2 : Bool) (w : World) (hr0 : Kd.C k30 w A0 l0.length l0) (hc0 : l0.length ≤ c0) (hr1 : Kd.C k30 w A1 l1.length l1) (hc1 : l1.length ≤ c1) (h : impl_LogMerge.f k l0 l1 = some (r1, r2)) :
  Calls Try.prog 40 #[.slice A0 l0.length c0, .slice A1 l1.length c1] w fun e w' => ∃ v0_ : Value, e = .returned (.tuple #[v0_, .bool r2]) ∧ Kd.R k30 30 w' w.heap.size (fun _ => True) v0_ r1 ∧ Below w.heap.size w w' := by
 have hu30 := Try.underlying30
 have hu28 := Try.underlying28
 have HR0 := Aside0.mk hr0
 have HC0 := Aside0.mk hc0
 clear hr0 hc0
 have HR1 := Aside0.mk hr1
 have HC1 := Aside0.mk hc1
 clear hr1 hc1
 have HB := Aside0.mk (Below.refl w.heap.size w)
 have H : ((impl_ValidLog.f k l0).bind fun t258 => (if t258 = true then ((impl_ValidLog.f k l1).bind fun t259 => (impl_LogMerge.j0 k l0 l1 (!t259))) else (impl_LogMerge.j0 k l0 l1 true))) = some (r1, r2) := h
 clear h
 have HC3 := Aside0.mk H
 clear H
 go_enter Try.func40, Try.ntmps40
 go_upto_region 1 with (fail)
 go_cut [16] (fun v16 wc => ∃ (kq : Nat) (x16_2 : Bool), v16 = .bool x16_2 ∧ Aside0 (impl_LogMerge.j0 kq l0 l1 x16_2 = some (r1, r2)) ∧ Aside0 (kq ≤ k) ∧ Aside0 (Below w.heap.size w wc))
 case first =>
  have H := HC3.out
  clear HC3
  replace H := Option.bind_eq_some_iff.mp H
  obtain ⟨t258, A40, H⟩ := H
  replace H : (if t258 = true then ((impl_ValidLog.f k l1).bind fun t259 => (impl_LogMerge.j0 k l0 l1 (!t259))) else (impl_LogMerge.j0 k l0 l1 true)) = some (r1, r2) := H
  have A4 := Aside0.mk A40
  clear A40
  by_cases c5 : t258 = true
  ·subst c5
   have H1 : ((impl_ValidLog.f k l1).bind fun t259 => (impl_LogMerge.j0 k l0 l1 (!t259))) = some (r1, r2) := by rw [if_pos rfl] at H; exact H
   clear H
   have H := H1
   clear H1
   replace H := Option.bind_eq_some_iff.mp H
   obtain ⟨t259, A60, H⟩ := H
   replace H : (impl_LogMerge.j0 k l0 l1 (!t259)) = some (r1, r2) := H
   have A6 := Aside0.mk A60
   clear A60
   have H' := Aside0.mk H
   clear H
   go_wp2_with (first | ((with_reducible refine gate_callee (f := 18) rfl ?_); refine goesL_ (some 10) rfl rfl Try.func18 (by kernel_rfl) rfl #[.slice A0 l0.length c0] rfl (by (try simp only [List.map_toArray, List.map_cons, List.map_nil]); first | done | rfl | (simp only [List.length_drop, List.length_take]; rfl)) ?_; (with_reducible refine (impl_ValidLog.calls k _ _ l0 true _ ?side1 ?side2 A4.out).mono ?_); (case side1 => repeat (first | exact (Kd.C_below HR0.out HB.out) | (with_reducible refine Kd.C_alloc ?_ _) | (with_reducible refine Kd.C_drewN ?_ _) | (with_reducible refine Kd.C_drew ?_))); (case side2 => exact HC0.out); rintro e w7 ⟨rfl, hb⟩; refine ⟨_, rfl, ?_⟩; have n0_ := Aside0.mk (below_step (by repeat (first | (with_reducible first | exact HB.out | apply below_alloc | apply pw_below_drewN | apply below_drew1) | exact HB.out)) hb); clear HB; have HB := n0_; clear n0_; (try clear hb); (try clear hb2); (try clear hk); (try clear hi)) | (go_at_call 18; (with_reducible refine (impl_ValidLog.calls k _ _ l1 t259 _ ?side1 ?side2 A6.out).mono ?_); (case side1 => repeat (first | exact (Kd.C_below HR1.out HB.out) | (with_reducible refine Kd.C_alloc ?_ _) | (with_reducible refine Kd.C_drewN ?_ _) | (with_reducible refine Kd.C_drew ?_))); (case side2 => exact HC1.out); rintro e w8 ⟨rfl, hb⟩; have n0_ := Aside0.mk (below_step (by repeat (first | (with_reducible first | exact HB.out | apply below_alloc | apply pw_below_drewN | apply below_drew1) | exact HB.out)) hb); clear HB; have HB := n0_; clear n0_; (try clear hb); (try clear hb2); (try clear hk); (try clear hi)))
   go_meet
   case rel => exact ⟨_, (!t259), (by first | rfl | (simp; done) | (simp [*]; done)), H', ⟨by first | omega | exact Nat.le_refl _⟩, ⟨by repeat (first | (with_reducible first | exact HB.out | apply below_alloc | apply pw_below_drewN | apply below_drew1) | exact HB.out)⟩⟩
  ·replace c5 := Bool.eq_false_iff.mpr c5
   subst c5
   have H1 : (impl_LogMerge.j0 k l0 l1 true) = some (r1, r2) := by rw [if_neg (show ¬ (false = true) by decide)] at H; exact H
   clear H
   have H := H1
   clear H1
   have H' := Aside0.mk H
   clear H
   go_wp2_with (first | ((with_reducible refine gate_callee (f := 18) rfl ?_); refine goesL_ (some 10) rfl rfl Try.func18 (by kernel_rfl) rfl #[.slice A0 l0.length c0] rfl (by (try simp only [List.map_toArray, List.map_cons, List.map_nil]); first | done | rfl | (simp only [List.length_drop, List.length_take]; rfl)) ?_; (with_reducible refine (impl_ValidLog.calls k _ _ l0 false _ ?side1 ?side2 A4.out).mono ?_); (case side1 => repeat (first | exact (Kd.C_below HR0.out HB.out) | (with_reducible refine Kd.C_alloc ?_ _) | (with_reducible refine Kd.C_drewN ?_ _) | (with_reducible refine Kd.C_drew ?_))); (case side2 => exact HC0.out); rintro e w9 ⟨rfl, hb⟩; refine ⟨_, rfl, ?_⟩; have n0_ := Aside0.mk (below_step (by repeat (first | (with_reducible first | exact HB.out | apply below_alloc | apply pw_below_drewN | apply below_drew1) | exact HB.out)) hb); clear HB; have HB := n0_; clear n0_; (try clear hb); (try clear hb2); (try clear hk); (try clear hi)))
   go_meet
   case rel => exact ⟨_, (true), (by first | rfl | (simp; done) | (simp [*]; done)), H', ⟨by first | omega | exact Nat.le_refl _⟩, ⟨by repeat (first | (with_reducible first | exact HB.out | apply below_alloc | apply pw_below_drewN | apply below_drew1) | exact HB.out)⟩⟩
 case rest =>
  clear HC3
  try clear c1
  try clear p2
  try clear c4
  try clear c5
  obtain ⟨kq, x16_2, rfl, HA, HJ2, HB⟩ := hcut
  cases kq with
  | zero => exact absurd HA.out (by simp [impl_LogMerge.j0])
  | succ kj2 =>
   have H := HA.out
   clear HA
   simp only [impl_LogMerge.j0] at H
   by_cases c10 : x16_2 = true
   ·subst c10
    have H1 : (some (([] : List (S30)), false)) = some (r1, r2) := by rw [if_pos rfl] at H; exact H
    clear H
    have H := H1
    clear H1
    simp only [Option.some.injEq, Prod.mk.injEq] at H
    obtain ⟨rfl, rfl⟩ := H
    go_wp2
    go_ret2
    exact ⟨_, by first | rfl | (simp [errW_none, errW_some] <;> rfl) | (simp [*, errW_none, errW_some] <;> rfl), by first | exact Kd.R_nil _ _ _ _ _ | exact Kd.N_nil _ _ _ _ _ | exact Kd.V_nil _ _ _ _ _ | exact Kd.Q_nil _ _ _ _ _ | exact Kd.S_nil _ _ _ _ _, by repeat (first | (with_reducible first | exact HB.out | apply below_alloc | apply pw_below_drewN | apply below_drew1) | exact HB.out)⟩
   ·replace c10 := Bool.eq_false_iff.mpr c10
    subst c10
    have H1 : ((some (([] : List (S30)) : List (S30))).bind fun y260 => (if y260.length + l0.length < 1353245080339 then (impl_LogMerge.l0 kj2 l0 (y260 ++ l0) l1 (l1.length : Int) 0) else (none))) = some (r1, r2) := by rw [if_neg (show ¬ (false = true) by decide)] at H; exact H
    clear H
    have H := H1
    clear H1
    obtain ⟨y260, hy260⟩ : ∃ y_ : List (S30), y_ = (([] : List (S30))) := ⟨_, rfl⟩
    replace H : (if y260.length + l0.length < 1353245080339 then (impl_LogMerge.l0 kj2 l0 (y260 ++ l0) l1 (l1.length : Int) 0) else (none)) = some (r1, r2) := by first | (rw [hy260]; with_reducible exact H) | (have H2_ := (Option.bind_some _ _).symm.trans H; rw [hy260]; with_reducible exact H2_) | (have H2_ := (Option.bind_some _ _).symm.trans H; with_reducible exact H2_) | with_reducible exact H | (rw [hy260]; exact H) | exact H
    have Ny260 := Aside0.mk hy260
    clear hy260
    by_cases c11 : y260.length + l0.length < 1353245080339
    ·rw [if_pos c11] at H
     have LMc11 := Aside0.mk c11
     clear c11
     obtain ⟨y263, hy263⟩ : ∃ y_ : List (S30), y_ = (y260 ++ l0) := ⟨_, rfl⟩
     replace H : (impl_LogMerge.l0 kj2 l0 y263 l1 (l1.length : Int) 0) = some (r1, r2) := by first | (rw [hy263]; with_reducible exact H) | (have H2_ := (Option.bind_some _ _).symm.trans H; rw [hy263]; with_reducible exact H2_) | (have H2_ := (Option.bind_some _ _).symm.trans H; with_reducible exact H2_) | with_reducible exact H | (rw [hy263]; exact H) | exact H
     have Ny263 := Aside0.mk hy263
     clear hy263
     have H' := Aside0.mk H
     clear H
     go_wp2_with (first | ((with_reducible refine gate_dst (N := 17) rfl ?_); refine Kd.R_lit k30 _ 30 ?hg (N := 17) ?hd (xs := ([] : List (S30))) (inner := []) (ok := fun _ => True) (okp := fun _ => True) ?hr ?hp (fun _ hk => hk) trivial (Below.refl _ _) (Nat.le_refl _) (by simp) ?_; (case hd => rfl); (case hg => rfl); (case hr => first | (go_simp; done) | (go_simp; rfl)); (case hp => exact (Reps.none _ _)); intro v261 w12 ho13 hb hg_ hnew_; clear hg_ hnew_; (first | rw [← Ny260.out] at ho13 | (simp only [Int.reduceToNat] at ho13; rw [← Ny260.out] at ho13)); have n0_ := Aside0.mk (Kd.R_lower ho13 (below_size (by repeat (first | (with_reducible first | exact HB.out | apply below_alloc | apply pw_below_drewN | apply below_drew1) | exact HB.out)))); have n1_ := Aside0.mk (below_step (by repeat (first | (with_reducible first | exact HB.out | apply below_alloc | apply pw_below_drewN | apply below_drew1) | exact HB.out)) hb); clear HB; have HO262 := n0_; have HB := n1_; clear n0_ n1_; clear hb ho13) | ((with_reducible refine gate_builtin (b := .append) (xs := #[.tmp 17, .tmp 18]) rfl ?_); at_builtin; refine Kd.R_append_rows k30 (w0 := w) w.heap.size rfl (.tmp 17) (.tmp 18) 36 30 (.agg #[(.int .i64 0), (.int .i64 0), (.int .i64 0), (.int .i64 0), (.int .i64 0), (.int .i64 0), (.int .i64 0), (.int .i64 0), (.int .i64 0), (.int .i64 0), (.bool false), (.string ⟨#[]⟩)]) 104 rfl Try.underlying36 info30 rfl (by decide) (by omega) v261 y260 l0 _ _ _ (fun _ => True) (fun _ => False) rfl rfl ?aO ?aR (fun _ _ h => h) (fun _ h => h.elim) ?aF ?aB ?aS ?aL ?_; (case aR => repeat (first | exact (Kd.C_below HR0.out HB.out) | (with_reducible refine Kd.C_alloc ?_ _) | (with_reducible refine Kd.C_drewN ?_ _) | (with_reducible refine Kd.C_drew ?_))); (case aB => exact (by repeat (first | (with_reducible first | exact HB.out | apply below_alloc | apply pw_below_drewN | apply below_drew1) | exact HB.out))); (case aF => exact (fun _ _ => trivial)); (case aO => exact (by (with_reducible repeat (first | apply Kd.R_alloc | apply Kd.R_drewN | apply Kd.R_drew)); exact HO262.out)); (case aS => exact (below_size (by repeat (first | (with_reducible first | exact HB.out | apply below_alloc | apply pw_below_drewN | apply below_drew1) | exact HB.out)))); (case aL => have := LMc11.out; omega); intro v264 w14 ho hb hg hat; rw [← Ny263.out] at ho; have n0_ := Aside0.mk (hb); have n1_ := Aside0.mk (ho); clear HB; clear HO262; have HB := n0_; have HO265 := n1_; clear n0_ n1_; clear ho hb hg hat))
     go_loopg [6, 22] kj2 (fun kq v6 v22 w' => ∃ (x6_2 : List (S30)) (x22_2 : Int), v22 = .int .i64 x22_2 ∧ Aside0 (impl_LogMerge.l0 kq l0 x6_2 l1 (l1.length : Int) x22_2 = some (r1, r2)) ∧ Aside0 (kq ≤ kj2) ∧ Aside0 (Kd.R k30 30 w' w.heap.size (fun _ => True) v6 x6_2) ∧ Aside0 (Below w.heap.size w w'))
     case atStart => exact ⟨(y263), (0), (by first | rfl | (simp; done) | (simp [*]; done)), H', ⟨Nat.le_refl _⟩, ⟨by (with_reducible repeat (first | apply Kd.R_alloc | apply Kd.R_drewN | apply Kd.R_drew)); exact HO265.out⟩, ⟨by repeat (first | (with_reducible first | exact HB.out | apply below_alloc | apply pw_below_drewN | apply below_drew1) | exact HB.out)⟩⟩
     case round =>
      clear H'
      try clear c1
      try clear p2
      try clear c4
      try clear c5
      try clear c10
      try clear c11
      try clear p2
      obtain ⟨x6_2, x22_2, rfl, HA, HK2, HO_6, HB⟩ := hrel
      cases gk with
      | zero => exact absurd HA.out (by simp [impl_LogMerge.l0])
      | succ k2 =>
       have H := HA.out
       clear HA
       simp only [impl_LogMerge.l0] at H
       by_cases c15 : x22_2 < (l1.length : Int)
       ·rw [if_pos c15] at H
        have c15b0 : decide (x22_2 < (l1.length : Int)) = true := decide_eq_true c15
        clear c15
        by_cases c16 : 0 ≤ x22_2
        ·rw [if_pos c16] at H
         have c16b0 : decide (0 ≤ x22_2) = true := decide_eq_true c16
         clear c16
         by_cases c17 : x22_2 < (l1.length : Int)
         ·rw [if_pos c17] at H
          have c17b0 : decide (x22_2 < (l1.length : Int)) = true := decide_eq_true c17
          clear c17
          replace H := Option.bind_eq_some_iff.mp H
          obtain ⟨t274, A180, H⟩ := H
          replace H : (if t274 < 0 then ((impl_inserted.f k2 x6_2 ((rd_T30 l1 x22_2).f0.f0) ((rd_T30 l1 x22_2).f0.f1) ((rd_T30 l1 x22_2).f1) ((rd_T30 l1 x22_2).f2.f0) ((rd_T30 l1 x22_2).f2.f1) ((rd_T30 l1 x22_2).f3.f0) ((rd_T30 l1 x22_2).f3.f1) ((rd_T30 l1 x22_2).f4.f0) ((rd_T30 l1 x22_2).f4.f1) ((rd_T30 l1 x22_2).f5) ((rd_T30 l1 x22_2).f6) ((rd_T30 l1 x22_2).f7)).bind fun t275 => (impl_LogMerge.l0 k2 l0 t275 l1 (l1.length : Int) (wrap64 (x22_2 + 1)))) else (impl_LogMerge.l0 k2 l0 x6_2 l1 (l1.length : Int) (wrap64 (x22_2 + 1)))) = some (r1, r2) := H
          have A18 := Aside0.mk A180
          clear A180
          by_cases c19 : t274 < 0
          ·rw [if_pos c19] at H
           have c19b0 : decide (t274 < 0) = true := decide_eq_true c19
           clear c19
           replace H := Option.bind_eq_some_iff.mp H
           obtain ⟨t275, A200, H⟩ := H
           replace H : (impl_LogMerge.l0 k2 l0 t275 l1 (l1.length : Int) (wrap64 (x22_2 + 1))) = some (r1, r2) := H
           have A20 := Aside0.mk A200
           clear A200
           have H' := Aside0.mk H
           clear H
           have p272 : 0 ≤ (x22_2 : Int) := of_decide_eq_true (by first | (with_reducible assumption) | assumption)
           have q272 : x22_2 < (l1.length : Int) := of_decide_eq_true (by first | (with_reducible assumption) | assumption)
           obtain ⟨ad272, e272, hx272_0, hx272_1, hx272_2, hx272_3, hx272_4, hx272_5, hx272_6, hx272_7, hx272_8, hx272_9, hx272_10, hx272_11⟩ := at_T30 HR1.out x22_2 p272 q272
           cases e272
           replace hx272_0 := cellUp HB.out hx272_0
           replace hx272_1 := cellUp HB.out hx272_1
           replace hx272_2 := cellUp HB.out hx272_2
           replace hx272_3 := cellUp HB.out hx272_3
           replace hx272_4 := cellUp HB.out hx272_4
           replace hx272_5 := cellUp HB.out hx272_5
           replace hx272_6 := cellUp HB.out hx272_6
           replace hx272_7 := cellUp HB.out hx272_7
           replace hx272_8 := cellUp HB.out hx272_8
           replace hx272_9 := cellUp HB.out hx272_9
           replace hx272_10 := cellUp HB.out hx272_10
           replace hx272_11 := cellUp HB.out hx272_11
           replace p272 := eq_true p272
           replace q272 := eq_true q272
           go_wp2_with (first | ((with_reducible refine gate_dst (N := 8) rfl ?_); refine box_event ?hg (N := 8) ?hd (cs := #[.int .i64 0, .int .i64 0, .int .i64 0, .int .i64 0, .int .i64 0, .int .i64 0, .int .i64 0, .int .i64 0, .int .i64 0, .int .i64 0, .bool false, .string (⟨#[]⟩ : ByteArray)]) (t := 30) ?hr ?_; (case hd => rfl); (case hg => rfl); (case hr => first | (go_simp; done) | (go_simp; rfl)); intro gb273 hg w21 hbox hb; have n0_ := Aside0.mk (Kd.R_below (Kd.R_elderB (by (with_reducible repeat (first | apply Kd.R_alloc | apply Kd.R_drewN | apply Kd.R_drew)); exact HO_6.out) gb273 (Nat.le_of_eq hg.symm)) hb); have n1_ := Aside0.mk (below_step (by repeat (first | (with_reducible first | exact HB.out | apply below_alloc | apply pw_below_drewN | apply below_drew1) | exact HB.out)) hb); have n2_ := Aside0.mk (hbox); have n3_ := Aside0.mk ((by rw [hg]; exact (below_size (by repeat (first | (with_reducible first | exact HB.out | apply below_alloc | apply pw_below_drewN | apply below_drew1) | exact HB.out))) : w.heap.size ≤ gb273)); have n4_ := Aside0.mk ((by rw [hg]; exact (below_size (by repeat (first | (with_reducible first | exact HB.out | apply below_alloc | apply pw_below_drewN | apply below_drew1) | exact HB.out))) : w.heap.size ≤ gb273)); clear HO_6; clear HB; have HO_6 := n0_; have HB := n1_; have BK273 := n2_; have GW273 := n3_; have GE273 := n4_; clear n0_ n1_ n2_ n3_ n4_; clear hb hbox hg; have hcz22_0 : w21.cell? ⟨gb273, 0, none⟩ = some (.int .i64 0) := (blk_cell BK273.out 0).trans rfl; have hcz22_1 : w21.cell? ⟨gb273, 1, none⟩ = some (.int .i64 0) := (blk_cell BK273.out 1).trans rfl; have hcz22_2 : w21.cell? ⟨gb273, 2, none⟩ = some (.int .i64 0) := (blk_cell BK273.out 2).trans rfl; have hcz22_3 : w21.cell? ⟨gb273, 3, none⟩ = some (.int .i64 0) := (blk_cell BK273.out 3).trans rfl; have hcz22_4 : w21.cell? ⟨gb273, 4, none⟩ = some (.int .i64 0) := (blk_cell BK273.out 4).trans rfl; have hcz22_5 : w21.cell? ⟨gb273, 5, none⟩ = some (.int .i64 0) := (blk_cell BK273.out 5).trans rfl; have hcz22_6 : w21.cell? ⟨gb273, 6, none⟩ = some (.int .i64 0) := (blk_cell BK273.out 6).trans rfl; have hcz22_7 : w21.cell? ⟨gb273, 7, none⟩ = some (.int .i64 0) := (blk_cell BK273.out 7).trans rfl; have hcz22_8 : w21.cell? ⟨gb273, 8, none⟩ = some (.int .i64 0) := (blk_cell BK273.out 8).trans rfl; have hcz22_9 : w21.cell? ⟨gb273, 9, none⟩ = some (.int .i64 0) := (blk_cell BK273.out 9).trans rfl; have hcz22_10 : w21.cell? ⟨gb273, 10, none⟩ = some (.bool false) := (blk_cell BK273.out 10).trans rfl; have hcz22_11 : w21.cell? ⟨gb273, 11, none⟩ = some (.string (⟨#[]⟩ : ByteArray)) := (blk_cell BK273.out 11).trans rfl; have hfz22_0 := blk_frozen BK273.out 0; have hfz22_1 := blk_frozen BK273.out 1; have hfz22_2 := blk_frozen BK273.out 2; have hfz22_3 := blk_frozen BK273.out 3; have hfz22_4 := blk_frozen BK273.out 4; have hfz22_5 := blk_frozen BK273.out 5; have hfz22_6 := blk_frozen BK273.out 6; have hfz22_7 := blk_frozen BK273.out 7; have hfz22_8 := blk_frozen BK273.out 8; have hfz22_9 := blk_frozen BK273.out 9; have hfz22_10 := blk_frozen BK273.out 10; have hfz22_11 := blk_frozen BK273.out 11) | ((with_reducible refine gate_callee (f := 59) rfl ?_); refine goesL_ (some 29) rfl rfl Try.func59 (by kernel_rfl) rfl #[.slice A0 l0.length c0, .agg #[.int .i64 ((rd_T30 l1 x22_2).f0.f0), .int .i64 ((rd_T30 l1 x22_2).f0.f1)]] rfl (by (try simp only [List.map_toArray, List.map_cons, List.map_nil]); first | done | rfl | (simp only [List.length_drop, List.length_take]; rfl)) ?_; (with_reducible refine (impl_opAt.calls k2 _ _ l0 ((rd_T30 l1 x22_2).f0.f0) ((rd_T30 l1 x22_2).f0.f1) t274 _ ?side1 ?side2 A18.out).mono ?_); (case side1 => exact Kd.C_below HR0.out (by repeat (first | (with_reducible first | exact HB.out | apply below_alloc | apply pw_below_drewN | apply below_drew1 | refine below_set ?_ GE273.out) | exact HB.out))); (case side2 => exact HC0.out); rintro e w23 ⟨rfl, hb⟩; refine ⟨_, rfl, ?_⟩; have n0_ := Aside0.mk (Kd.R_below (by (with_reducible repeat (first | apply Kd.R_alloc | apply Kd.R_drewN | apply Kd.R_drew)); exact (Kd.R_mono (Kd.R_far (p := ⟨gb273, 11, none⟩) (Kd.R_far (p := ⟨gb273, 10, none⟩) (Kd.R_far (p := ⟨gb273, 9, none⟩) (Kd.R_far (p := ⟨gb273, 8, none⟩) (Kd.R_far (p := ⟨gb273, 7, none⟩) (Kd.R_far (p := ⟨gb273, 6, none⟩) (Kd.R_far (p := ⟨gb273, 5, none⟩) (Kd.R_far (p := ⟨gb273, 4, none⟩) (Kd.R_far (p := ⟨gb273, 3, none⟩) (Kd.R_far (p := ⟨gb273, 2, none⟩) (Kd.R_far (p := ⟨gb273, 1, none⟩) (Kd.R_far (p := ⟨gb273, 0, none⟩) (Kd.R_mono HO_6.out (fun k_ hk => (⟨hk, hk.2⟩ : _ ∧ k_ ≠ gb273))) (fun _ hk => hk.2) (.int .i64 ((rd_T30 l1 x22_2).f0.f0))) (fun _ hk => hk.2) (.int .i64 ((rd_T30 l1 x22_2).f0.f1))) (fun _ hk => hk.2) (.int .i64 ((rd_T30 l1 x22_2).f1))) (fun _ hk => hk.2) (.int .i64 ((rd_T30 l1 x22_2).f2.f0))) (fun _ hk => hk.2) (.int .i64 ((rd_T30 l1 x22_2).f2.f1))) (fun _ hk => hk.2) (.int .i64 ((rd_T30 l1 x22_2).f3.f0))) (fun _ hk => hk.2) (.int .i64 ((rd_T30 l1 x22_2).f3.f1))) (fun _ hk => hk.2) (.int .i64 ((rd_T30 l1 x22_2).f4.f0))) (fun _ hk => hk.2) (.int .i64 ((rd_T30 l1 x22_2).f4.f1))) (fun _ hk => hk.2) (.int .i64 ((rd_T30 l1 x22_2).f5))) (fun _ hk => hk.2) (.bool ((rd_T30 l1 x22_2).f6))) (fun _ hk => hk.2) (.string ((rd_T30 l1 x22_2).f7))) (fun _ h_ => h_.1))) hb); have n1_ := Aside0.mk (blk_below (g := gb273) (o := .cells #[.int .i64 ((rd_T30 l1 x22_2).f0.f0), .int .i64 ((rd_T30 l1 x22_2).f0.f1), .int .i64 ((rd_T30 l1 x22_2).f1), .int .i64 ((rd_T30 l1 x22_2).f2.f0), .int .i64 ((rd_T30 l1 x22_2).f2.f1), .int .i64 ((rd_T30 l1 x22_2).f3.f0), .int .i64 ((rd_T30 l1 x22_2).f3.f1), .int .i64 ((rd_T30 l1 x22_2).f4.f0), .int .i64 ((rd_T30 l1 x22_2).f4.f1), .int .i64 ((rd_T30 l1 x22_2).f5), .bool ((rd_T30 l1 x22_2).f6), .string ((rd_T30 l1 x22_2).f7)] 30 (0, 0)) (by (with_reducible repeat (first | refine blk_drewN ?_ _ | refine blk_drew ?_ | refine blk_alloc ?_ _)); refine blk_put (cs := #[.int .i64 ((rd_T30 l1 x22_2).f0.f0), .int .i64 ((rd_T30 l1 x22_2).f0.f1), .int .i64 ((rd_T30 l1 x22_2).f1), .int .i64 ((rd_T30 l1 x22_2).f2.f0), .int .i64 ((rd_T30 l1 x22_2).f2.f1), .int .i64 ((rd_T30 l1 x22_2).f3.f0), .int .i64 ((rd_T30 l1 x22_2).f3.f1), .int .i64 ((rd_T30 l1 x22_2).f4.f0), .int .i64 ((rd_T30 l1 x22_2).f4.f1), .int .i64 ((rd_T30 l1 x22_2).f5), .bool ((rd_T30 l1 x22_2).f6), .string (⟨#[]⟩ : ByteArray)]) ?_ 11 _ rfl; (with_reducible repeat (first | refine blk_drewN ?_ _ | refine blk_drew ?_ | refine blk_alloc ?_ _)); refine blk_put (cs := #[.int .i64 ((rd_T30 l1 x22_2).f0.f0), .int .i64 ((rd_T30 l1 x22_2).f0.f1), .int .i64 ((rd_T30 l1 x22_2).f1), .int .i64 ((rd_T30 l1 x22_2).f2.f0), .int .i64 ((rd_T30 l1 x22_2).f2.f1), .int .i64 ((rd_T30 l1 x22_2).f3.f0), .int .i64 ((rd_T30 l1 x22_2).f3.f1), .int .i64 ((rd_T30 l1 x22_2).f4.f0), .int .i64 ((rd_T30 l1 x22_2).f4.f1), .int .i64 ((rd_T30 l1 x22_2).f5), .bool false, .string (⟨#[]⟩ : ByteArray)]) ?_ 10 _ rfl; (with_reducible repeat (first | refine blk_drewN ?_ _ | refine blk_drew ?_ | refine blk_alloc ?_ _)); refine blk_put (cs := #[.int .i64 ((rd_T30 l1 x22_2).f0.f0), .int .i64 ((rd_T30 l1 x22_2).f0.f1), .int .i64 ((rd_T30 l1 x22_2).f1), .int .i64 ((rd_T30 l1 x22_2).f2.f0), .int .i64 ((rd_T30 l1 x22_2).f2.f1), .int .i64 ((rd_T30 l1 x22_2).f3.f0), .int .i64 ((rd_T30 l1 x22_2).f3.f1), .int .i64 ((rd_T30 l1 x22_2).f4.f0), .int .i64 ((rd_T30 l1 x22_2).f4.f1), .int .i64 0, .bool false, .string (⟨#[]⟩ : ByteArray)]) ?_ 9 _ rfl; (with_reducible repeat (first | refine blk_drewN ?_ _ | refine blk_drew ?_ | refine blk_alloc ?_ _)); refine blk_put (cs := #[.int .i64 ((rd_T30 l1 x22_2).f0.f0), .int .i64 ((rd_T30 l1 x22_2).f0.f1), .int .i64 ((rd_T30 l1 x22_2).f1), .int .i64 ((rd_T30 l1 x22_2).f2.f0), .int .i64 ((rd_T30 l1 x22_2).f2.f1), .int .i64 ((rd_T30 l1 x22_2).f3.f0), .int .i64 ((rd_T30 l1 x22_2).f3.f1), .int .i64 ((rd_T30 l1 x22_2).f4.f0), .int .i64 0, .int .i64 0, .bool false, .string (⟨#[]⟩ : ByteArray)]) ?_ 8 _ rfl; (with_reducible repeat (first | refine blk_drewN ?_ _ | refine blk_drew ?_ | refine blk_alloc ?_ _)); refine blk_put (cs := #[.int .i64 ((rd_T30 l1 x22_2).f0.f0), .int .i64 ((rd_T30 l1 x22_2).f0.f1), .int .i64 ((rd_T30 l1 x22_2).f1), .int .i64 ((rd_T30 l1 x22_2).f2.f0), .int .i64 ((rd_T30 l1 x22_2).f2.f1), .int .i64 ((rd_T30 l1 x22_2).f3.f0), .int .i64 ((rd_T30 l1 x22_2).f3.f1), .int .i64 0, .int .i64 0, .int .i64 0, .bool false, .string (⟨#[]⟩ : ByteArray)]) ?_ 7 _ rfl; (with_reducible repeat (first | refine blk_drewN ?_ _ | refine blk_drew ?_ | refine blk_alloc ?_ _)); refine blk_put (cs := #[.int .i64 ((rd_T30 l1 x22_2).f0.f0), .int .i64 ((rd_T30 l1 x22_2).f0.f1), .int .i64 ((rd_T30 l1 x22_2).f1), .int .i64 ((rd_T30 l1 x22_2).f2.f0), .int .i64 ((rd_T30 l1 x22_2).f2.f1), .int .i64 ((rd_T30 l1 x22_2).f3.f0), .int .i64 0, .int .i64 0, .int .i64 0, .int .i64 0, .bool false, .string (⟨#[]⟩ : ByteArray)]) ?_ 6 _ rfl; (with_reducible repeat (first | refine blk_drewN ?_ _ | refine blk_drew ?_ | refine blk_alloc ?_ _)); refine blk_put (cs := #[.int .i64 ((rd_T30 l1 x22_2).f0.f0), .int .i64 ((rd_T30 l1 x22_2).f0.f1), .int .i64 ((rd_T30 l1 x22_2).f1), .int .i64 ((rd_T30 l1 x22_2).f2.f0), .int .i64 ((rd_T30 l1 x22_2).f2.f1), .int .i64 0, .int .i64 0, .int .i64 0, .int .i64 0, .int .i64 0, .bool false, .string (⟨#[]⟩ : ByteArray)]) ?_ 5 _ rfl; (with_reducible repeat (first | refine blk_drewN ?_ _ | refine blk_drew ?_ | refine blk_alloc ?_ _)); refine blk_put (cs := #[.int .i64 ((rd_T30 l1 x22_2).f0.f0), .int .i64 ((rd_T30 l1 x22_2).f0.f1), .int .i64 ((rd_T30 l1 x22_2).f1), .int .i64 ((rd_T30 l1 x22_2).f2.f0), .int .i64 0, .int .i64 0, .int .i64 0, .int .i64 0, .int .i64 0, .int .i64 0, .bool false, .string (⟨#[]⟩ : ByteArray)]) ?_ 4 _ rfl; (with_reducible repeat (first | refine blk_drewN ?_ _ | refine blk_drew ?_ | refine blk_alloc ?_ _)); refine blk_put (cs := #[.int .i64 ((rd_T30 l1 x22_2).f0.f0), .int .i64 ((rd_T30 l1 x22_2).f0.f1), .int .i64 ((rd_T30 l1 x22_2).f1), .int .i64 0, .int .i64 0, .int .i64 0, .int .i64 0, .int .i64 0, .int .i64 0, .int .i64 0, .bool false, .string (⟨#[]⟩ : ByteArray)]) ?_ 3 _ rfl; (with_reducible repeat (first | refine blk_drewN ?_ _ | refine blk_drew ?_ | refine blk_alloc ?_ _)); refine blk_put (cs := #[.int .i64 ((rd_T30 l1 x22_2).f0.f0), .int .i64 ((rd_T30 l1 x22_2).f0.f1), .int .i64 0, .int .i64 0, .int .i64 0, .int .i64 0, .int .i64 0, .int .i64 0, .int .i64 0, .int .i64 0, .bool false, .string (⟨#[]⟩ : ByteArray)]) ?_ 2 _ rfl; (with_reducible repeat (first | refine blk_drewN ?_ _ | refine blk_drew ?_ | refine blk_alloc ?_ _)); refine blk_put (cs := #[.int .i64 ((rd_T30 l1 x22_2).f0.f0), .int .i64 0, .int .i64 0, .int .i64 0, .int .i64 0, .int .i64 0, .int .i64 0, .int .i64 0, .int .i64 0, .int .i64 0, .bool false, .string (⟨#[]⟩ : ByteArray)]) ?_ 1 _ rfl; (with_reducible repeat (first | refine blk_drewN ?_ _ | refine blk_drew ?_ | refine blk_alloc ?_ _)); refine blk_put (cs := #[.int .i64 0, .int .i64 0, .int .i64 0, .int .i64 0, .int .i64 0, .int .i64 0, .int .i64 0, .int .i64 0, .int .i64 0, .int .i64 0, .bool false, .string (⟨#[]⟩ : ByteArray)]) ?_ 0 _ rfl; (with_reducible repeat (first | refine blk_drewN ?_ _ | refine blk_drew ?_ | refine blk_alloc ?_ _)); exact BK273.out) hb); have n2_ := Aside0.mk (below_step (by repeat (first | (with_reducible first | exact HB.out | apply below_alloc | apply pw_below_drewN | apply below_drew1 | refine below_set ?_ GE273.out) | exact HB.out)) hb); clear HO_6; clear BK273; clear HB; have HO_6 := n0_; have BK273 := n1_; have HB := n2_; clear n0_ n1_ n2_; (try clear hb); (try clear hb2); (try clear hk); (try clear hi); have hcz24_0 : w23.cell? ⟨gb273, 0, none⟩ = some (.int .i64 ((rd_T30 l1 x22_2).f0.f0)) := (blk_cell BK273.out 0).trans rfl; have hcz24_1 : w23.cell? ⟨gb273, 1, none⟩ = some (.int .i64 ((rd_T30 l1 x22_2).f0.f1)) := (blk_cell BK273.out 1).trans rfl; have hcz24_2 : w23.cell? ⟨gb273, 2, none⟩ = some (.int .i64 ((rd_T30 l1 x22_2).f1)) := (blk_cell BK273.out 2).trans rfl; have hcz24_3 : w23.cell? ⟨gb273, 3, none⟩ = some (.int .i64 ((rd_T30 l1 x22_2).f2.f0)) := (blk_cell BK273.out 3).trans rfl; have hcz24_4 : w23.cell? ⟨gb273, 4, none⟩ = some (.int .i64 ((rd_T30 l1 x22_2).f2.f1)) := (blk_cell BK273.out 4).trans rfl; have hcz24_5 : w23.cell? ⟨gb273, 5, none⟩ = some (.int .i64 ((rd_T30 l1 x22_2).f3.f0)) := (blk_cell BK273.out 5).trans rfl; have hcz24_6 : w23.cell? ⟨gb273, 6, none⟩ = some (.int .i64 ((rd_T30 l1 x22_2).f3.f1)) := (blk_cell BK273.out 6).trans rfl; have hcz24_7 : w23.cell? ⟨gb273, 7, none⟩ = some (.int .i64 ((rd_T30 l1 x22_2).f4.f0)) := (blk_cell BK273.out 7).trans rfl; have hcz24_8 : w23.cell? ⟨gb273, 8, none⟩ = some (.int .i64 ((rd_T30 l1 x22_2).f4.f1)) := (blk_cell BK273.out 8).trans rfl; have hcz24_9 : w23.cell? ⟨gb273, 9, none⟩ = some (.int .i64 ((rd_T30 l1 x22_2).f5)) := (blk_cell BK273.out 9).trans rfl; have hcz24_10 : w23.cell? ⟨gb273, 10, none⟩ = some (.bool ((rd_T30 l1 x22_2).f6)) := (blk_cell BK273.out 10).trans rfl; have hcz24_11 : w23.cell? ⟨gb273, 11, none⟩ = some (.string ((rd_T30 l1 x22_2).f7)) := (blk_cell BK273.out 11).trans rfl; have hfz24_0 := blk_frozen BK273.out 0; have hfz24_1 := blk_frozen BK273.out 1; have hfz24_2 := blk_frozen BK273.out 2; have hfz24_3 := blk_frozen BK273.out 3; have hfz24_4 := blk_frozen BK273.out 4; have hfz24_5 := blk_frozen BK273.out 5; have hfz24_6 := blk_frozen BK273.out 6; have hfz24_7 := blk_frozen BK273.out 7; have hfz24_8 := blk_frozen BK273.out 8; have hfz24_9 := blk_frozen BK273.out 9; have hfz24_10 := blk_frozen BK273.out 10; have hfz24_11 := blk_frozen BK273.out 11; obtain ⟨Ao25, co25, eo25⟩ := Kd.R_slice HO_6.out; subst eo25) | ((with_reducible refine gate_callee (f := 60) rfl ?_); refine goesL_ (some 33) rfl rfl Try.func60 (by kernel_rfl) rfl #[.slice Ao25 x6_2.length co25, .agg #[.int .i64 ((rd_T30 l1 x22_2).f0.f0), .int .i64 ((rd_T30 l1 x22_2).f0.f1), .int .i64 ((rd_T30 l1 x22_2).f1), .int .i64 ((rd_T30 l1 x22_2).f2.f0), .int .i64 ((rd_T30 l1 x22_2).f2.f1), .int .i64 ((rd_T30 l1 x22_2).f3.f0), .int .i64 ((rd_T30 l1 x22_2).f3.f1), .int .i64 ((rd_T30 l1 x22_2).f4.f0), .int .i64 ((rd_T30 l1 x22_2).f4.f1), .int .i64 ((rd_T30 l1 x22_2).f5), .bool ((rd_T30 l1 x22_2).f6), .string ((rd_T30 l1 x22_2).f7)]] rfl (by (try simp only [List.map_toArray, List.map_cons, List.map_nil]); first | done | rfl | (simp only [List.length_drop, List.length_take]; rfl)) ?_; (with_reducible refine (impl_inserted.calls k2 _ _ x6_2 ((rd_T30 l1 x22_2).f0.f0) ((rd_T30 l1 x22_2).f0.f1) ((rd_T30 l1 x22_2).f1) ((rd_T30 l1 x22_2).f2.f0) ((rd_T30 l1 x22_2).f2.f1) ((rd_T30 l1 x22_2).f3.f0) ((rd_T30 l1 x22_2).f3.f1) ((rd_T30 l1 x22_2).f4.f0) ((rd_T30 l1 x22_2).f4.f1) ((rd_T30 l1 x22_2).f5) ((rd_T30 l1 x22_2).f6) ((rd_T30 l1 x22_2).f7) t275 _ ?side1 ?side2 A20.out).mono ?_); (case side1 => repeat (first | exact (Kd.R_reads' HO_6.out).2.2 | (with_reducible refine Kd.C_alloc ?_ _) | (with_reducible refine Kd.C_drewN ?_ _) | (with_reducible refine Kd.C_drew ?_))); (case side2 => exact (Kd.R_reads' HO_6.out).2.1); rintro e w26 ⟨v276, rfl, ho0, hb⟩; refine ⟨_, rfl, ?_⟩; have n0_ := Aside0.mk (Kd.R_elder' (by (with_reducible repeat (first | apply Kd.R_alloc | apply Kd.R_drewN | apply Kd.R_drew)); exact HO_6.out) (Kd.R_base ho0) hb); have n1_ := Aside0.mk (Kd.R_lower (Kd.R_newB (Kd.R_new' ho0 (Kd.R_lt (by (with_reducible repeat (first | apply Kd.R_alloc | apply Kd.R_drewN | apply Kd.R_drew)); exact HO_6.out))) (g := gb273) (o := .cells #[.int .i64 ((rd_T30 l1 x22_2).f0.f0), .int .i64 ((rd_T30 l1 x22_2).f0.f1), .int .i64 ((rd_T30 l1 x22_2).f1), .int .i64 ((rd_T30 l1 x22_2).f2.f0), .int .i64 ((rd_T30 l1 x22_2).f2.f1), .int .i64 ((rd_T30 l1 x22_2).f3.f0), .int .i64 ((rd_T30 l1 x22_2).f3.f1), .int .i64 ((rd_T30 l1 x22_2).f4.f0), .int .i64 ((rd_T30 l1 x22_2).f4.f1), .int .i64 ((rd_T30 l1 x22_2).f5), .bool ((rd_T30 l1 x22_2).f6), .string ((rd_T30 l1 x22_2).f7)] 30 (0, 0)) (by (with_reducible repeat (first | refine blk_drewN ?_ _ | refine blk_drew ?_ | refine blk_alloc ?_ _)); exact BK273.out)) (below_size (by repeat (first | (with_reducible first | exact HB.out | apply below_alloc | apply pw_below_drewN | apply below_drew1 | refine below_set ?_ GE273.out) | exact HB.out)))); have n2_ := Aside0.mk (blk_below (g := gb273) (o := .cells #[.int .i64 ((rd_T30 l1 x22_2).f0.f0), .int .i64 ((rd_T30 l1 x22_2).f0.f1), .int .i64 ((rd_T30 l1 x22_2).f1), .int .i64 ((rd_T30 l1 x22_2).f2.f0), .int .i64 ((rd_T30 l1 x22_2).f2.f1), .int .i64 ((rd_T30 l1 x22_2).f3.f0), .int .i64 ((rd_T30 l1 x22_2).f3.f1), .int .i64 ((rd_T30 l1 x22_2).f4.f0), .int .i64 ((rd_T30 l1 x22_2).f4.f1), .int .i64 ((rd_T30 l1 x22_2).f5), .bool ((rd_T30 l1 x22_2).f6), .string ((rd_T30 l1 x22_2).f7)] 30 (0, 0)) (by (with_reducible repeat (first | refine blk_drewN ?_ _ | refine blk_drew ?_ | refine blk_alloc ?_ _)); exact BK273.out) hb); have n3_ := Aside0.mk (below_step (by repeat (first | (with_reducible first | exact HB.out | apply below_alloc | apply pw_below_drewN | apply below_drew1 | refine below_set ?_ GE273.out) | exact HB.out)) hb); clear HO_6; clear BK273; clear HB; have HO_6 := n0_; have HO277 := n1_; have BK273 := n2_; have HB := n3_; clear n0_ n1_ n2_ n3_; (try clear hb); (try clear hb2); (try clear hk); (try clear hi); (try clear ho0)))
           go_roundg k2
           case measure => have := HJ2.out; have := HK2.out; omega
           case rel => exact ⟨(t275), (wrap64 (x22_2 + 1)), (by first | rfl | (simp; done) | (simp [*]; done)), H', ⟨by have := HJ2.out; have := HK2.out; omega⟩, ⟨by (with_reducible repeat (first | apply Kd.R_alloc | apply Kd.R_drewN | apply Kd.R_drew)); exact Kd.R_mono HO277.out (fun _ hk => trivial)⟩, ⟨by repeat (first | (with_reducible first | exact HB.out | apply below_alloc | apply pw_below_drewN | apply below_drew1 | refine below_set ?_ GE273.out) | exact HB.out)⟩⟩
          ·rw [if_neg c19] at H
           have c19b0 : decide (t274 < 0) = false := decide_eq_false c19
           clear c19
           have H' := Aside0.mk H
           clear H
           have p272 : 0 ≤ (x22_2 : Int) := of_decide_eq_true (by first | (with_reducible assumption) | assumption)
           have q272 : x22_2 < (l1.length : Int) := of_decide_eq_true (by first | (with_reducible assumption) | assumption)
           obtain ⟨ad272, e272, hx272_0, hx272_1, hx272_2, hx272_3, hx272_4, hx272_5, hx272_6, hx272_7, hx272_8, hx272_9, hx272_10, hx272_11⟩ := at_T30 HR1.out x22_2 p272 q272
           cases e272
           replace hx272_0 := cellUp HB.out hx272_0
           replace hx272_1 := cellUp HB.out hx272_1
           replace hx272_2 := cellUp HB.out hx272_2
           replace hx272_3 := cellUp HB.out hx272_3
           replace hx272_4 := cellUp HB.out hx272_4
           replace hx272_5 := cellUp HB.out hx272_5
           replace hx272_6 := cellUp HB.out hx272_6
           replace hx272_7 := cellUp HB.out hx272_7
           replace hx272_8 := cellUp HB.out hx272_8
           replace hx272_9 := cellUp HB.out hx272_9
           replace hx272_10 := cellUp HB.out hx272_10
           replace hx272_11 := cellUp HB.out hx272_11
           replace p272 := eq_true p272
           replace q272 := eq_true q272
           go_wp2_with (first | ((with_reducible refine gate_dst (N := 8) rfl ?_); refine box_event ?hg (N := 8) ?hd (cs := #[.int .i64 0, .int .i64 0, .int .i64 0, .int .i64 0, .int .i64 0, .int .i64 0, .int .i64 0, .int .i64 0, .int .i64 0, .int .i64 0, .bool false, .string (⟨#[]⟩ : ByteArray)]) (t := 30) ?hr ?_; (case hd => rfl); (case hg => rfl); (case hr => first | (go_simp; done) | (go_simp; rfl)); intro gb273 hg w27 hbox hb; have n0_ := Aside0.mk (Kd.R_below (Kd.R_elderB (by (with_reducible repeat (first | apply Kd.R_alloc | apply Kd.R_drewN | apply Kd.R_drew)); exact HO_6.out) gb273 (Nat.le_of_eq hg.symm)) hb); have n1_ := Aside0.mk (below_step (by repeat (first | (with_reducible first | exact HB.out | apply below_alloc | apply pw_below_drewN | apply below_drew1) | exact HB.out)) hb); have n2_ := Aside0.mk (hbox); have n3_ := Aside0.mk ((by rw [hg]; exact (below_size (by repeat (first | (with_reducible first | exact HB.out | apply below_alloc | apply pw_below_drewN | apply below_drew1) | exact HB.out))) : w.heap.size ≤ gb273)); have n4_ := Aside0.mk ((by rw [hg]; exact (below_size (by repeat (first | (with_reducible first | exact HB.out | apply below_alloc | apply pw_below_drewN | apply below_drew1) | exact HB.out))) : w.heap.size ≤ gb273)); clear HO_6; clear HB; have HO_6 := n0_; have HB := n1_; have BK273 := n2_; have GW273 := n3_; have GE273 := n4_; clear n0_ n1_ n2_ n3_ n4_; clear hb hbox hg; have hcz28_0 : w27.cell? ⟨gb273, 0, none⟩ = some (.int .i64 0) := (blk_cell BK273.out 0).trans rfl; have hcz28_1 : w27.cell? ⟨gb273, 1, none⟩ = some (.int .i64 0) := (blk_cell BK273.out 1).trans rfl; have hcz28_2 : w27.cell? ⟨gb273, 2, none⟩ = some (.int .i64 0) := (blk_cell BK273.out 2).trans rfl; have hcz28_3 : w27.cell? ⟨gb273, 3, none⟩ = some (.int .i64 0) := (blk_cell BK273.out 3).trans rfl; have hcz28_4 : w27.cell? ⟨gb273, 4, none⟩ = some (.int .i64 0) := (blk_cell BK273.out 4).trans rfl; have hcz28_5 : w27.cell? ⟨gb273, 5, none⟩ = some (.int .i64 0) := (blk_cell BK273.out 5).trans rfl; have hcz28_6 : w27.cell? ⟨gb273, 6, none⟩ = some (.int .i64 0) := (blk_cell BK273.out 6).trans rfl; have hcz28_7 : w27.cell? ⟨gb273, 7, none⟩ = some (.int .i64 0) := (blk_cell BK273.out 7).trans rfl; have hcz28_8 : w27.cell? ⟨gb273, 8, none⟩ = some (.int .i64 0) := (blk_cell BK273.out 8).trans rfl; have hcz28_9 : w27.cell? ⟨gb273, 9, none⟩ = some (.int .i64 0) := (blk_cell BK273.out 9).trans rfl; have hcz28_10 : w27.cell? ⟨gb273, 10, none⟩ = some (.bool false) := (blk_cell BK273.out 10).trans rfl; have hcz28_11 : w27.cell? ⟨gb273, 11, none⟩ = some (.string (⟨#[]⟩ : ByteArray)) := (blk_cell BK273.out 11).trans rfl; have hfz28_0 := blk_frozen BK273.out 0; have hfz28_1 := blk_frozen BK273.out 1; have hfz28_2 := blk_frozen BK273.out 2; have hfz28_3 := blk_frozen BK273.out 3; have hfz28_4 := blk_frozen BK273.out 4; have hfz28_5 := blk_frozen BK273.out 5; have hfz28_6 := blk_frozen BK273.out 6; have hfz28_7 := blk_frozen BK273.out 7; have hfz28_8 := blk_frozen BK273.out 8; have hfz28_9 := blk_frozen BK273.out 9; have hfz28_10 := blk_frozen BK273.out 10; have hfz28_11 := blk_frozen BK273.out 11) | ((with_reducible refine gate_callee (f := 59) rfl ?_); refine goesL_ (some 29) rfl rfl Try.func59 (by kernel_rfl) rfl #[.slice A0 l0.length c0, .agg #[.int .i64 ((rd_T30 l1 x22_2).f0.f0), .int .i64 ((rd_T30 l1 x22_2).f0.f1)]] rfl (by (try simp only [List.map_toArray, List.map_cons, List.map_nil]); first | done | rfl | (simp only [List.length_drop, List.length_take]; rfl)) ?_; (with_reducible refine (impl_opAt.calls k2 _ _ l0 ((rd_T30 l1 x22_2).f0.f0) ((rd_T30 l1 x22_2).f0.f1) t274 _ ?side1 ?side2 A18.out).mono ?_); (case side1 => exact Kd.C_below HR0.out (by repeat (first | (with_reducible first | exact HB.out | apply below_alloc | apply pw_below_drewN | apply below_drew1 | refine below_set ?_ GE273.out) | exact HB.out))); (case side2 => exact HC0.out); rintro e w29 ⟨rfl, hb⟩; refine ⟨_, rfl, ?_⟩; have n0_ := Aside0.mk (Kd.R_below (by (with_reducible repeat (first | apply Kd.R_alloc | apply Kd.R_drewN | apply Kd.R_drew)); exact (Kd.R_mono (Kd.R_far (p := ⟨gb273, 11, none⟩) (Kd.R_far (p := ⟨gb273, 10, none⟩) (Kd.R_far (p := ⟨gb273, 9, none⟩) (Kd.R_far (p := ⟨gb273, 8, none⟩) (Kd.R_far (p := ⟨gb273, 7, none⟩) (Kd.R_far (p := ⟨gb273, 6, none⟩) (Kd.R_far (p := ⟨gb273, 5, none⟩) (Kd.R_far (p := ⟨gb273, 4, none⟩) (Kd.R_far (p := ⟨gb273, 3, none⟩) (Kd.R_far (p := ⟨gb273, 2, none⟩) (Kd.R_far (p := ⟨gb273, 1, none⟩) (Kd.R_far (p := ⟨gb273, 0, none⟩) (Kd.R_mono HO_6.out (fun k_ hk => (⟨hk, hk.2⟩ : _ ∧ k_ ≠ gb273))) (fun _ hk => hk.2) (.int .i64 ((rd_T30 l1 x22_2).f0.f0))) (fun _ hk => hk.2) (.int .i64 ((rd_T30 l1 x22_2).f0.f1))) (fun _ hk => hk.2) (.int .i64 ((rd_T30 l1 x22_2).f1))) (fun _ hk => hk.2) (.int .i64 ((rd_T30 l1 x22_2).f2.f0))) (fun _ hk => hk.2) (.int .i64 ((rd_T30 l1 x22_2).f2.f1))) (fun _ hk => hk.2) (.int .i64 ((rd_T30 l1 x22_2).f3.f0))) (fun _ hk => hk.2) (.int .i64 ((rd_T30 l1 x22_2).f3.f1))) (fun _ hk => hk.2) (.int .i64 ((rd_T30 l1 x22_2).f4.f0))) (fun _ hk => hk.2) (.int .i64 ((rd_T30 l1 x22_2).f4.f1))) (fun _ hk => hk.2) (.int .i64 ((rd_T30 l1 x22_2).f5))) (fun _ hk => hk.2) (.bool ((rd_T30 l1 x22_2).f6))) (fun _ hk => hk.2) (.string ((rd_T30 l1 x22_2).f7))) (fun _ h_ => h_.1))) hb); have n1_ := Aside0.mk (blk_below (g := gb273) (o := .cells #[.int .i64 ((rd_T30 l1 x22_2).f0.f0), .int .i64 ((rd_T30 l1 x22_2).f0.f1), .int .i64 ((rd_T30 l1 x22_2).f1), .int .i64 ((rd_T30 l1 x22_2).f2.f0), .int .i64 ((rd_T30 l1 x22_2).f2.f1), .int .i64 ((rd_T30 l1 x22_2).f3.f0), .int .i64 ((rd_T30 l1 x22_2).f3.f1), .int .i64 ((rd_T30 l1 x22_2).f4.f0), .int .i64 ((rd_T30 l1 x22_2).f4.f1), .int .i64 ((rd_T30 l1 x22_2).f5), .bool ((rd_T30 l1 x22_2).f6), .string ((rd_T30 l1 x22_2).f7)] 30 (0, 0)) (by (with_reducible repeat (first | refine blk_drewN ?_ _ | refine blk_drew ?_ | refine blk_alloc ?_ _)); refine blk_put (cs := #[.int .i64 ((rd_T30 l1 x22_2).f0.f0), .int .i64 ((rd_T30 l1 x22_2).f0.f1), .int .i64 ((rd_T30 l1 x22_2).f1), .int .i64 ((rd_T30 l1 x22_2).f2.f0), .int .i64 ((rd_T30 l1 x22_2).f2.f1), .int .i64 ((rd_T30 l1 x22_2).f3.f0), .int .i64 ((rd_T30 l1 x22_2).f3.f1), .int .i64 ((rd_T30 l1 x22_2).f4.f0), .int .i64 ((rd_T30 l1 x22_2).f4.f1), .int .i64 ((rd_T30 l1 x22_2).f5), .bool ((rd_T30 l1 x22_2).f6), .string (⟨#[]⟩ : ByteArray)]) ?_ 11 _ rfl; (with_reducible repeat (first | refine blk_drewN ?_ _ | refine blk_drew ?_ | refine blk_alloc ?_ _)); refine blk_put (cs := #[.int .i64 ((rd_T30 l1 x22_2).f0.f0), .int .i64 ((rd_T30 l1 x22_2).f0.f1), .int .i64 ((rd_T30 l1 x22_2).f1), .int .i64 ((rd_T30 l1 x22_2).f2.f0), .int .i64 ((rd_T30 l1 x22_2).f2.f1), .int .i64 ((rd_T30 l1 x22_2).f3.f0), .int .i64 ((rd_T30 l1 x22_2).f3.f1), .int .i64 ((rd_T30 l1 x22_2).f4.f0), .int .i64 ((rd_T30 l1 x22_2).f4.f1), .int .i64 ((rd_T30 l1 x22_2).f5), .bool false, .string (⟨#[]⟩ : ByteArray)]) ?_ 10 _ rfl; (with_reducible repeat (first | refine blk_drewN ?_ _ | refine blk_drew ?_ | refine blk_alloc ?_ _)); refine blk_put (cs := #[.int .i64 ((rd_T30 l1 x22_2).f0.f0), .int .i64 ((rd_T30 l1 x22_2).f0.f1), .int .i64 ((rd_T30 l1 x22_2).f1), .int .i64 ((rd_T30 l1 x22_2).f2.f0), .int .i64 ((rd_T30 l1 x22_2).f2.f1), .int .i64 ((rd_T30 l1 x22_2).f3.f0), .int .i64 ((rd_T30 l1 x22_2).f3.f1), .int .i64 ((rd_T30 l1 x22_2).f4.f0), .int .i64 ((rd_T30 l1 x22_2).f4.f1), .int .i64 0, .bool false, .string (⟨#[]⟩ : ByteArray)]) ?_ 9 _ rfl; (with_reducible repeat (first | refine blk_drewN ?_ _ | refine blk_drew ?_ | refine blk_alloc ?_ _)); refine blk_put (cs := #[.int .i64 ((rd_T30 l1 x22_2).f0.f0), .int .i64 ((rd_T30 l1 x22_2).f0.f1), .int .i64 ((rd_T30 l1 x22_2).f1), .int .i64 ((rd_T30 l1 x22_2).f2.f0), .int .i64 ((rd_T30 l1 x22_2).f2.f1), .int .i64 ((rd_T30 l1 x22_2).f3.f0), .int .i64 ((rd_T30 l1 x22_2).f3.f1), .int .i64 ((rd_T30 l1 x22_2).f4.f0), .int .i64 0, .int .i64 0, .bool false, .string (⟨#[]⟩ : ByteArray)]) ?_ 8 _ rfl; (with_reducible repeat (first | refine blk_drewN ?_ _ | refine blk_drew ?_ | refine blk_alloc ?_ _)); refine blk_put (cs := #[.int .i64 ((rd_T30 l1 x22_2).f0.f0), .int .i64 ((rd_T30 l1 x22_2).f0.f1), .int .i64 ((rd_T30 l1 x22_2).f1), .int .i64 ((rd_T30 l1 x22_2).f2.f0), .int .i64 ((rd_T30 l1 x22_2).f2.f1), .int .i64 ((rd_T30 l1 x22_2).f3.f0), .int .i64 ((rd_T30 l1 x22_2).f3.f1), .int .i64 0, .int .i64 0, .int .i64 0, .bool false, .string (⟨#[]⟩ : ByteArray)]) ?_ 7 _ rfl; (with_reducible repeat (first | refine blk_drewN ?_ _ | refine blk_drew ?_ | refine blk_alloc ?_ _)); refine blk_put (cs := #[.int .i64 ((rd_T30 l1 x22_2).f0.f0), .int .i64 ((rd_T30 l1 x22_2).f0.f1), .int .i64 ((rd_T30 l1 x22_2).f1), .int .i64 ((rd_T30 l1 x22_2).f2.f0), .int .i64 ((rd_T30 l1 x22_2).f2.f1), .int .i64 ((rd_T30 l1 x22_2).f3.f0), .int .i64 0, .int .i64 0, .int .i64 0, .int .i64 0, .bool false, .string (⟨#[]⟩ : ByteArray)]) ?_ 6 _ rfl; (with_reducible repeat (first | refine blk_drewN ?_ _ | refine blk_drew ?_ | refine blk_alloc ?_ _)); refine blk_put (cs := #[.int .i64 ((rd_T30 l1 x22_2).f0.f0), .int .i64 ((rd_T30 l1 x22_2).f0.f1), .int .i64 ((rd_T30 l1 x22_2).f1), .int .i64 ((rd_T30 l1 x22_2).f2.f0), .int .i64 ((rd_T30 l1 x22_2).f2.f1), .int .i64 0, .int .i64 0, .int .i64 0, .int .i64 0, .int .i64 0, .bool false, .string (⟨#[]⟩ : ByteArray)]) ?_ 5 _ rfl; (with_reducible repeat (first | refine blk_drewN ?_ _ | refine blk_drew ?_ | refine blk_alloc ?_ _)); refine blk_put (cs := #[.int .i64 ((rd_T30 l1 x22_2).f0.f0), .int .i64 ((rd_T30 l1 x22_2).f0.f1), .int .i64 ((rd_T30 l1 x22_2).f1), .int .i64 ((rd_T30 l1 x22_2).f2.f0), .int .i64 0, .int .i64 0, .int .i64 0, .int .i64 0, .int .i64 0, .int .i64 0, .bool false, .string (⟨#[]⟩ : ByteArray)]) ?_ 4 _ rfl; (with_reducible repeat (first | refine blk_drewN ?_ _ | refine blk_drew ?_ | refine blk_alloc ?_ _)); refine blk_put (cs := #[.int .i64 ((rd_T30 l1 x22_2).f0.f0), .int .i64 ((rd_T30 l1 x22_2).f0.f1), .int .i64 ((rd_T30 l1 x22_2).f1), .int .i64 0, .int .i64 0, .int .i64 0, .int .i64 0, .int .i64 0, .int .i64 0, .int .i64 0, .bool false, .string (⟨#[]⟩ : ByteArray)]) ?_ 3 _ rfl; (with_reducible repeat (first | refine blk_drewN ?_ _ | refine blk_drew ?_ | refine blk_alloc ?_ _)); refine blk_put (cs := #[.int .i64 ((rd_T30 l1 x22_2).f0.f0), .int .i64 ((rd_T30 l1 x22_2).f0.f1), .int .i64 0, .int .i64 0, .int .i64 0, .int .i64 0, .int .i64 0, .int .i64 0, .int .i64 0, .int .i64 0, .bool false, .string (⟨#[]⟩ : ByteArray)]) ?_ 2 _ rfl; (with_reducible repeat (first | refine blk_drewN ?_ _ | refine blk_drew ?_ | refine blk_alloc ?_ _)); refine blk_put (cs := #[.int .i64 ((rd_T30 l1 x22_2).f0.f0), .int .i64 0, .int .i64 0, .int .i64 0, .int .i64 0, .int .i64 0, .int .i64 0, .int .i64 0, .int .i64 0, .int .i64 0, .bool false, .string (⟨#[]⟩ : ByteArray)]) ?_ 1 _ rfl; (with_reducible repeat (first | refine blk_drewN ?_ _ | refine blk_drew ?_ | refine blk_alloc ?_ _)); refine blk_put (cs := #[.int .i64 0, .int .i64 0, .int .i64 0, .int .i64 0, .int .i64 0, .int .i64 0, .int .i64 0, .int .i64 0, .int .i64 0, .int .i64 0, .bool false, .string (⟨#[]⟩ : ByteArray)]) ?_ 0 _ rfl; (with_reducible repeat (first | refine blk_drewN ?_ _ | refine blk_drew ?_ | refine blk_alloc ?_ _)); exact BK273.out) hb); have n2_ := Aside0.mk (below_step (by repeat (first | (with_reducible first | exact HB.out | apply below_alloc | apply pw_below_drewN | apply below_drew1 | refine below_set ?_ GE273.out) | exact HB.out)) hb); clear HO_6; clear BK273; clear HB; have HO_6 := n0_; have BK273 := n1_; have HB := n2_; clear n0_ n1_ n2_; (try clear hb); (try clear hb2); (try clear hk); (try clear hi)))
           go_roundg k2
           case measure => have := HJ2.out; have := HK2.out; omega
           case rel => exact ⟨(x6_2), (wrap64 (x22_2 + 1)), (by first | rfl | (simp; done) | (simp [*]; done)), H', ⟨by have := HJ2.out; have := HK2.out; omega⟩, ⟨by (with_reducible repeat (first | apply Kd.R_alloc | apply Kd.R_drewN | apply Kd.R_drew)); exact Kd.R_mono HO_6.out (fun _ hk => trivial)⟩, ⟨by repeat (first | (with_reducible first | exact HB.out | apply below_alloc | apply pw_below_drewN | apply below_drew1 | refine below_set ?_ GE273.out) | exact HB.out)⟩⟩
         ·rw [if_neg c17] at H
          exact absurd H (by simp)
        ·rw [if_neg c16] at H
         exact absurd H (by simp)
       ·rw [if_neg c15] at H
        have c15b0 : decide (x22_2 < (l1.length : Int)) = false := decide_eq_false c15
        clear c15
        by_cases c30 : (x6_2.length : Int) > 40
        ·rw [if_pos c30] at H
         have c30b0 : decide (40 < (x6_2.length : Int)) = true := decide_eq_true c30
         have c30b1 : decide (40 < x6_2.length) = true := decide_eq_true (by omega)
         clear c30
         obtain ⟨y266, hy266⟩ : ∃ y_ : List (S30), y_ = (([] : List (S30))) := ⟨_, rfl⟩
         replace H : (if y266.length + l0.length < 1353245080339 then (some ((y266 ++ l0), false)) else (none)) = some (r1, r2) := by first | (rw [hy266]; with_reducible exact H) | (have H2_ := (Option.bind_some _ _).symm.trans H; rw [hy266]; with_reducible exact H2_) | (have H2_ := (Option.bind_some _ _).symm.trans H; with_reducible exact H2_) | with_reducible exact H | (rw [hy266]; exact H) | exact H
         have Ny266 := Aside0.mk hy266
         clear hy266
         by_cases c31 : y266.length + l0.length < 1353245080339
         ·rw [if_pos c31] at H
          have LMc31 := Aside0.mk c31
          clear c31
          obtain ⟨y269, hy269⟩ : ∃ y_ : List (S30), y_ = (y266 ++ l0) := ⟨_, rfl⟩
          replace H : (some (y269, false)) = some (r1, r2) := by first | (rw [hy269]; with_reducible exact H) | (have H2_ := (Option.bind_some _ _).symm.trans H; rw [hy269]; with_reducible exact H2_) | (have H2_ := (Option.bind_some _ _).symm.trans H; with_reducible exact H2_) | with_reducible exact H | (rw [hy269]; exact H) | exact H
          have Ny269 := Aside0.mk hy269
          clear hy269
          simp only [Option.some.injEq, Prod.mk.injEq] at H
          obtain ⟨rfl, rfl⟩ := H
          obtain ⟨Ao32, co32, eo32⟩ := Kd.R_slice HO_6.out
          subst eo32
          go_wp2_with (first | ((with_reducible refine gate_dst (N := 38) rfl ?_); refine Kd.R_lit k30 _ 30 ?hg (N := 38) ?hd (xs := ([] : List (S30))) (inner := []) (ok := fun _ => True) (okp := fun _ => True) ?hr ?hp (fun _ hk => hk) trivial (Below.refl _ _) (Nat.le_refl _) (by simp) ?_; (case hd => rfl); (case hg => rfl); (case hr => first | (go_simp; done) | (go_simp; rfl)); (case hp => exact (Reps.none _ _)); intro v267 w33 ho34 hb hg_ hnew_; clear hg_ hnew_; (first | rw [← Ny266.out] at ho34 | (simp only [Int.reduceToNat] at ho34; rw [← Ny266.out] at ho34)); have n0_ := Aside0.mk (Kd.R_elder' (by (with_reducible repeat (first | apply Kd.R_alloc | apply Kd.R_drewN | apply Kd.R_drew)); exact HO_6.out) (Kd.R_base ho34) hb); have n1_ := Aside0.mk (Kd.R_lower (Kd.R_new' ho34 (Kd.R_lt (by (with_reducible repeat (first | apply Kd.R_alloc | apply Kd.R_drewN | apply Kd.R_drew)); exact HO_6.out))) (below_size (by repeat (first | (with_reducible first | exact HB.out | apply below_alloc | apply pw_below_drewN | apply below_drew1) | exact HB.out)))); have n2_ := Aside0.mk (below_step (by repeat (first | (with_reducible first | exact HB.out | apply below_alloc | apply pw_below_drewN | apply below_drew1) | exact HB.out)) hb); clear HO_6; clear HB; have HO_6 := n0_; have HO268 := n1_; have HB := n2_; clear n0_ n1_ n2_; clear hb ho34) | ((with_reducible refine gate_builtin (b := .append) (xs := #[.tmp 38, .tmp 39]) rfl ?_); at_builtin; refine Kd.R_append_rows k30 (w0 := w) w.heap.size rfl (.tmp 38) (.tmp 39) 36 30 (.agg #[(.int .i64 0), (.int .i64 0), (.int .i64 0), (.int .i64 0), (.int .i64 0), (.int .i64 0), (.int .i64 0), (.int .i64 0), (.int .i64 0), (.int .i64 0), (.bool false), (.string ⟨#[]⟩)]) 104 rfl Try.underlying36 info30 rfl (by decide) (by omega) v267 y266 l0 _ _ _ (fun k_ => some k_ ≠ (.slice Ao32 x6_2.length co32 : Value).ownBlock) (fun _ => False) rfl rfl ?aO ?aR (fun _ _ h => h) (fun _ h => h.elim) ?aF ?aB ?aS ?aL ?_; (case aR => repeat (first | exact (Kd.C_below HR0.out HB.out) | (with_reducible refine Kd.C_alloc ?_ _) | (with_reducible refine Kd.C_drewN ?_ _) | (with_reducible refine Kd.C_drew ?_))); (case aB => exact (by repeat (first | (with_reducible first | exact HB.out | apply below_alloc | apply pw_below_drewN | apply below_drew1) | exact HB.out))); (case aF => exact (fun k_ hk => Kd.fresh' (Kd.R_lt (by (with_reducible repeat (first | apply Kd.R_alloc | apply Kd.R_drewN | apply Kd.R_drew)); exact HO_6.out)) k_ hk)); (case aO => exact (by (with_reducible repeat (first | apply Kd.R_alloc | apply Kd.R_drewN | apply Kd.R_drew)); exact Kd.R_mono HO268.out (fun _ hk => hk.2))); (case aS => exact (below_size (by repeat (first | (with_reducible first | exact HB.out | apply below_alloc | apply pw_below_drewN | apply below_drew1) | exact HB.out)))); (case aL => have := LMc31.out; omega); intro v270 w35 ho hb hg hat; rw [← Ny269.out] at ho; have n0_ := Aside0.mk (Kd.R_after (ok := (fun _ => True)) (by (with_reducible repeat (first | apply Kd.R_alloc | apply Kd.R_drewN | apply Kd.R_drew)); exact HO_6.out) hg hat); have n1_ := Aside0.mk (hb); have n2_ := Aside0.mk (ho); clear HO_6; clear HB; clear HO268; have HO_6 := n0_; have HB := n1_; have HO271 := n2_; clear n0_ n1_ n2_; clear ho hb hg hat))
          go_ret2
          exact ⟨_, by first | rfl | (simp [errW_none, errW_some] <;> rfl) | (simp [*, errW_none, errW_some] <;> rfl), by (with_reducible repeat (first | apply Kd.R_alloc | apply Kd.R_drewN | apply Kd.R_drew)); exact Kd.R_mono HO271.out (fun _ hk => trivial), by repeat (first | (with_reducible first | exact HB.out | apply below_alloc | apply pw_below_drewN | apply below_drew1) | exact HB.out)⟩
         ·rw [if_neg c31] at H
          exact absurd H (by simp)
        ·rw [if_neg c30] at H
         have c30b0 : decide (40 < (x6_2.length : Int)) = false := decide_eq_false c30
         have c30b1 : decide (40 < x6_2.length) = false := decide_eq_false (by omega)
         clear c30
         simp only [Option.some.injEq, Prod.mk.injEq] at H
         obtain ⟨rfl, rfl⟩ := H
         obtain ⟨Ao36, co36, eo36⟩ := Kd.R_slice HO_6.out
         subst eo36
         go_wp2
         go_ret2
         exact ⟨_, by first | rfl | (simp [errW_none, errW_some] <;> rfl) | (simp [*, errW_none, errW_some] <;> rfl), by (with_reducible repeat (first | apply Kd.R_alloc | apply Kd.R_drewN | apply Kd.R_drew)); exact HO_6.out, by repeat (first | (with_reducible first | exact HB.out | apply below_alloc | apply pw_below_drewN | apply below_drew1) | exact HB.out)⟩
    ·rw [if_neg c11] at H
     exact absurd H (by simp)

end Go.Proofs.Ytomigiindmojkaa.QG

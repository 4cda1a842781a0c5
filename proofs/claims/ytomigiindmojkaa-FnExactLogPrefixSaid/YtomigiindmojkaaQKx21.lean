/- Proved here: a call of each of these functions of the program does what the Lean function of the same name says. Conditions: the premises of each theorem (what the arguments read as). Written by a program of this session over the print of the kit, repaired, and joined with texts by hand. -/
import Derived.Test.YtomigiindmojkaaQKx0
import Derived.Test.YtomigiindmojkaaQKx7
import Derived.Test.YtomigiindmojkaaQKx20
namespace Go.Proofs.Ytomigiindmojkaa.QK
open Go.Proofs.Ytomigiindmojkaa.Base Go.RowKit Go.Proofs.YtomigiindmojkaaW.PrintWords Go.Proofs.YtomigiindmojkaaW.PrintLast Go.Proofs.YtomigiindmojkaaW.PrintMore
attribute [local go_sem] max2_int min2_int max_two min_two max_three min_three max_four min_four   -- for this text's walks alone
set_option linter.unusedVariables false
set_option linter.unusedSimpArgs false

/-! ### impl_LogMissing: function 33 -/
def impl_LogMissing.f (k : Nat) (l0 : List (S30)) (l1 : List Int) : Option ((List (S30))) := (impl_logBy.f k l0 l1 false).bind fun t207 => (some t207)
theorem impl_LogMissing.mono : ∀ a0 a1 k, LeO (impl_LogMissing.f k a0 a1) (impl_LogMissing.f (k + 1) a0 a1) := by
 intro a0 a1 k
 unfold impl_LogMissing.f
 repeat' first
   | (with_reducible exact impl_logBy.mono _ _ _ _)
   | (with_reducible exact LeO.refl _)
   | (with_reducible exact LeO.none _)
   | (with_reducible refine LeO.ite ?_ ?_)
   | (with_reducible refine LeO.bind ?_ (fun _ => ?_))
   | exact impl_logBy.mono _ _ _ _
   | exact LeO.none _
   | refine LeO.ite ?_ ?_
   | refine LeO.bind ?_ (fun _ => ?_)
set_option maxHeartbeats 8000000 in
set_option maxRecDepth 100000 in
theorem impl_LogMissing.calls (k : Nat) (A0 : Option Addr) (c0 : Nat) (l0 : List (S30)) (A1 : Option Addr) (c1 : Nat) (l1 : List Int) (r : List (S30)) (w : World) (hr0 : Kd.C k30 w A0 l0.length l0) (hc0 : l0.length ≤ c0) (hr1 : Kd.C (Kd.int .i64) w A1 l1.length l1) (hc1 : l1.length ≤ c1) (h : impl_LogMissing.f k l0 l1 = some r) :
  Calls Try.prog 33 #[.slice A0 l0.length c0, .slice A1 l1.length c1] w fun e w' => ∃ v0_ : Value, e = .returned (v0_) ∧ Kd.R k30 30 w' w.heap.size (fun _ => True) v0_ r ∧ Below w.heap.size w w' := by
 have HR0 := Aside0.mk hr0
 have HC0 := Aside0.mk hc0
 clear hr0 hc0
 have HR1 := Aside0.mk hr1
 have HC1 := Aside0.mk hc1
 clear hr1 hc1
 have HB := Aside0.mk (Below.refl w.heap.size w)
 have H : ((impl_logBy.f k l0 l1 false).bind fun t207 => (some t207)) = some r := h
 clear h
 replace H := Option.bind_eq_some_iff.mp H
 obtain ⟨t207, A30, H⟩ := H
 replace H : (some t207) = some r := H
 have A3 := Aside0.mk A30
 clear A30
 obtain rfl := Option.some.inj H
 go_enter Try.func33, Try.ntmps33
 go_wp2_with (first | ((with_reducible refine gate_callee (f := 56) rfl ?_); refine goesL_ (some 7) rfl rfl Try.func56 (by kernel_rfl) rfl #[.slice A0 l0.length c0, .slice A1 l1.length c1, .bool false] rfl (by (try simp only [List.map_toArray, List.map_cons, List.map_nil]); first | done | rfl | (simp only [List.length_drop, List.length_take]; rfl)) ?_; (with_reducible refine (impl_logBy.calls k _ _ l0 _ _ l1 false t207 _ ?side1 ?side2 ?side3 ?side4 A3.out).mono ?_); (case side1 => repeat (first | exact HR0.out | (with_reducible refine Kd.C_alloc ?_ _) | (with_reducible refine Kd.C_drewN ?_ _) | (with_reducible refine Kd.C_drew ?_))); (case side2 => exact HC0.out); (case side3 => repeat (first | exact HR1.out | (with_reducible refine Kd.C_alloc ?_ _) | (with_reducible refine Kd.C_drewN ?_ _) | (with_reducible refine Kd.C_drew ?_))); (case side4 => exact HC1.out); rintro e w4 ⟨v208, rfl, ho0, hb⟩; refine ⟨_, rfl, ?_⟩; have n0_ := Aside0.mk (Kd.R_lower ho0 (below_size (by repeat (first | (with_reducible first | exact HB.out | apply below_alloc | apply pw_below_drewN | apply below_drew1) | exact HB.out)))); have n1_ := Aside0.mk (below_step (by repeat (first | (with_reducible first | exact HB.out | apply below_alloc | apply pw_below_drewN | apply below_drew1) | exact HB.out)) hb); clear HB; have HO209 := n0_; have HB := n1_; clear n0_ n1_; (try clear hb); (try clear hb2); (try clear hk); (try clear hi); (try clear ho0)))
 go_ret
 exact ⟨_, by first | rfl | (simp [errW_none, errW_some] <;> rfl) | (simp [*, errW_none, errW_some] <;> rfl), by (with_reducible repeat (first | apply Kd.R_alloc | apply Kd.R_drewN | apply Kd.R_drew)); exact HO209.out, by repeat (first | (with_reducible first | exact HB.out | apply below_alloc | apply pw_below_drewN | apply below_drew1) | exact HB.out)⟩

/-! ### laws_heldOpS: function 34 -/
def isM (x : S30) (a : Int) (s : ByteArray) : Prop := x.f0.f0 = a ∧ x.f0.f1 = (a + 1) ∧ x.f1 = (a + 2) ∧ x.f2.f0 = (a + 3) ∧ x.f2.f1 = (a + 4) ∧ x.f3.f0 = (a + 5) ∧ x.f3.f1 = (a + 6) ∧ x.f4.f0 = (a + 7) ∧ x.f4.f1 = (a + 8) ∧ x.f5 = (a + 9) ∧ x.f6 = (Int.tmod (a + 10) 3 == 0) ∧ x.f7.toList = s.toList
instance (x : S30) (a : Int) (s : ByteArray) : Decidable (isM x a s) := by unfold isM; infer_instance
def heldL (k : Nat) : Int → List S30 → Option Int
 | a, [] => some a
 | a, x :: r => (laws_markText.f k (a + 11)).bind fun s => if isM x a s then heldL k (a + 12) r else none
theorem heldL_mono (k : Nat) : ∀ (l : List S30) (a : Int), LeO (heldL k a l) (heldL (k + 1) a l)
 | [], _ => LeO.refl _
 | _ :: r, a => by
  unfold heldL
  refine LeO.bind (laws_markText.mono _ _) (fun _ => ?_)
  exact LeO.ite (heldL_mono k r _) (LeO.refl _)
def laws_heldOpS.f (k : Nat) (l0 : List S30) (a1 : Int) : Option Int := if (0 ≤ a1 ∧ a1 + 12 * (l0.length : Int) ≤ 100000000000) ∧ l0.length ≤ 4000000 then heldL k a1 l0 else none
theorem laws_heldOpS.mono : ∀ a0 a1 k, LeO (laws_heldOpS.f k a0 a1) (laws_heldOpS.f (k + 1) a0 a1) := by
 intro a0 a1 k
 unfold laws_heldOpS.f
 exact LeO.ite (heldL_mono k _ _) (LeO.refl _)
theorem hdrop30 (xs : List S30) (x5 : Int) (i : Nat) (h : x5 = (i : Int)) (hl : i < xs.length) : xs.drop i = rd_T30 xs x5 :: xs.drop (i + 1) := by
 subst h
 rw [dropCons xs i hl]
 simp [rd_T30, hl]
set_option maxHeartbeats 8000000 in
set_option maxRecDepth 100000 in
theorem laws_heldOpS.calls (k : Nat) (A0 : Option Addr) (c0 : Nat) (l0 : List S30) (a1 : Int) (r : Int) (w : World) (hr0 : Kd.C k30 w A0 l0.length l0) (hc0 : l0.length ≤ c0) (h : laws_heldOpS.f k l0 a1 = some r) :
  Calls Try.prog 34 #[.slice A0 l0.length c0, .int .i64 a1] w fun e w' => e = .returned (.int .i64 r) ∧ Below w.heap.size w w' := by
 have hu1 := Try.underlying30
 have hu2 := Try.underlying28
 unfold laws_heldOpS.f at h
 by_cases hq : (0 ≤ a1 ∧ a1 + 12 * (l0.length : Int) ≤ 100000000000) ∧ l0.length ≤ 4000000
 case neg => rw [if_neg hq] at h; cases h
 rw [if_pos hq] at h
 have HR := Aside0.mk hr0
 have HB := Aside0.mk (Below.refl w.heap.size w)
 have HH := Aside0.mk (show heldL k a1 (l0.drop 0) = some r from h)
 have HQ := Aside0.mk hq
 clear hr0 hc0 h hq
 go_enter Try.func34, Try.ntmps34
 go_wp2
 go_loopg [1, 5] (l0.length + 1) (fun kq v1 v5 w' => ∃ (i : Nat) (a x5 : Int), v1 = .int .i64 a ∧ v5 = .int .i64 x5 ∧ Aside0 ((0 ≤ a ∧ a + 12 * (l0.length : Int) ≤ 100000000000 + 12 * (i : Int)) ∧ x5 = (i : Int) ∧ i ≤ l0.length ∧ i + kq = l0.length + 1) ∧ Aside0 (heldL k a (l0.drop i) = some r) ∧ Aside0 (Below w.heap.size w w'))
 case atStart => exact ⟨0, a1, 0, rfl, rfl, ⟨⟨HQ.out.1.1, by have := HQ.out.1.2; omega⟩, rfl, by omega, by omega⟩, HH, HB⟩
 case round =>
  clear HB HH
  obtain ⟨i, a, x5, rfl, rfl, HI, HH, HB⟩ := hrel
  obtain ⟨⟨ha0, ha1⟩, hx5, hi1, hi2⟩ := HI.out
  have hq2 := HQ.out.2
  have hm := HH.out
  clear HI HH HQ
  cases gk with
  | zero => omega
  | succ k1 =>
   by_cases hl : i < l0.length
   ·rw [hdrop30 l0 x5 i hx5 hl] at hm
    unfold heldL at hm
    obtain ⟨s, es, hmA⟩ := Option.bind_eq_some_iff.mp hm
    clear hm
    by_cases hc : isM (rd_T30 l0 x5) a s
    case neg => rw [if_neg hc] at hmA; cases hmA
    rw [if_pos hc] at hmA
    have HC := Aside0.mk hc
    clear hc
    have h0 : 0 ≤ x5 := by omega
    have h1 : x5 < (l0.length : Int) := by omega
    have h1b : decide (x5 < (l0.length : Int)) = true := decide_eq_true h1
    have HN := Aside0.mk hmA
    have HA := Aside0.mk (show (0 ≤ a ∧ a + 12 * (l0.length : Int) ≤ 100000000000 + 12 * (i : Int)) ∧ x5 = (i : Int) ∧ i < l0.length ∧ l0.length ≤ 4000000 ∧ i + (k1 + 1) = l0.length + 1 from ⟨⟨ha0, ha1⟩, hx5, hl, hq2, hi2⟩)
    have e1 : wrap64 (a + 1) = a + 1 := (wrapId (x := a + 1) (by omega) (by omega)).trans (by omega)
    have e2 : wrap64 (a + 1 + 1) = a + 2 := (wrapId (x := a + 1 + 1) (by omega) (by omega)).trans (by omega)
    have e3 : wrap64 (a + 2 + 1) = a + 3 := (wrapId (x := a + 2 + 1) (by omega) (by omega)).trans (by omega)
    have e4 : wrap64 (a + 3 + 1) = a + 4 := (wrapId (x := a + 3 + 1) (by omega) (by omega)).trans (by omega)
    have e5 : wrap64 (a + 4 + 1) = a + 5 := (wrapId (x := a + 4 + 1) (by omega) (by omega)).trans (by omega)
    have e6 : wrap64 (a + 5 + 1) = a + 6 := (wrapId (x := a + 5 + 1) (by omega) (by omega)).trans (by omega)
    have e7 : wrap64 (a + 6 + 1) = a + 7 := (wrapId (x := a + 6 + 1) (by omega) (by omega)).trans (by omega)
    have e8 : wrap64 (a + 7 + 1) = a + 8 := (wrapId (x := a + 7 + 1) (by omega) (by omega)).trans (by omega)
    have e9 : wrap64 (a + 8 + 1) = a + 9 := (wrapId (x := a + 8 + 1) (by omega) (by omega)).trans (by omega)
    have e10 : wrap64 (a + 9 + 1) = a + 10 := (wrapId (x := a + 9 + 1) (by omega) (by omega)).trans (by omega)
    have e11 : wrap64 (a + 10 + 1) = a + 11 := (wrapId (x := a + 10 + 1) (by omega) (by omega)).trans (by omega)
    have e12 : wrap64 (a + 11 + 1) = a + 12 := (wrapId (x := a + 11 + 1) (by omega) (by omega)).trans (by omega)
    replace es : laws_markText.f k (wrap64 ((wrap64 ((wrap64 ((wrap64 ((wrap64 ((wrap64 ((wrap64 ((wrap64 ((wrap64 ((wrap64 ((wrap64 (a + 1)) + 1)) + 1)) + 1)) + 1)) + 1)) + 1)) + 1)) + 1)) + 1)) + 1)) = some s := by simp only [e1, e2, e3, e4, e5, e6, e7, e8, e9, e10, e11, e12]; exact es
    have HES := Aside0.mk es
    have HW12 := Aside0.mk (show wrap64 ((wrap64 ((wrap64 ((wrap64 ((wrap64 ((wrap64 ((wrap64 ((wrap64 ((wrap64 ((wrap64 ((wrap64 ((wrap64 (a + 1)) + 1)) + 1)) + 1)) + 1)) + 1)) + 1)) + 1)) + 1)) + 1)) + 1)) + 1) = a + 12 by simp only [e1, e2, e3, e4, e5, e6, e7, e8, e9, e10, e11, e12])
    obtain ⟨c0, c1, c2, c3, c4, c5, c6, c7, c8, c9, c10, c11⟩ := HC.out
    clear HC
    obtain ⟨ad, e, z0, z1, z2, z3, z4, z5, z6, z7, z8, z9, z10, z11⟩ := at_T30 (Kd.C_below HR.out HB.out) x5 h0 h1
    subst e
    rw [show (rd_T30 l0 x5).f0.f0 = a from by rw [c0]] at z0
    rw [show (rd_T30 l0 x5).f0.f1 = (wrap64 (a + 1)) from by rw [c1]; simp only [e1, e2, e3, e4, e5, e6, e7, e8, e9, e10, e11, e12]] at z1
    rw [show (rd_T30 l0 x5).f1 = (wrap64 ((wrap64 (a + 1)) + 1)) from by rw [c2]; simp only [e1, e2, e3, e4, e5, e6, e7, e8, e9, e10, e11, e12]] at z2
    rw [show (rd_T30 l0 x5).f2.f0 = (wrap64 ((wrap64 ((wrap64 (a + 1)) + 1)) + 1)) from by rw [c3]; simp only [e1, e2, e3, e4, e5, e6, e7, e8, e9, e10, e11, e12]] at z3
    rw [show (rd_T30 l0 x5).f2.f1 = (wrap64 ((wrap64 ((wrap64 ((wrap64 (a + 1)) + 1)) + 1)) + 1)) from by rw [c4]; simp only [e1, e2, e3, e4, e5, e6, e7, e8, e9, e10, e11, e12]] at z4
    rw [show (rd_T30 l0 x5).f3.f0 = (wrap64 ((wrap64 ((wrap64 ((wrap64 ((wrap64 (a + 1)) + 1)) + 1)) + 1)) + 1)) from by rw [c5]; simp only [e1, e2, e3, e4, e5, e6, e7, e8, e9, e10, e11, e12]] at z5
    rw [show (rd_T30 l0 x5).f3.f1 = (wrap64 ((wrap64 ((wrap64 ((wrap64 ((wrap64 ((wrap64 (a + 1)) + 1)) + 1)) + 1)) + 1)) + 1)) from by rw [c6]; simp only [e1, e2, e3, e4, e5, e6, e7, e8, e9, e10, e11, e12]] at z6
    rw [show (rd_T30 l0 x5).f4.f0 = (wrap64 ((wrap64 ((wrap64 ((wrap64 ((wrap64 ((wrap64 ((wrap64 (a + 1)) + 1)) + 1)) + 1)) + 1)) + 1)) + 1)) from by rw [c7]; simp only [e1, e2, e3, e4, e5, e6, e7, e8, e9, e10, e11, e12]] at z7
    rw [show (rd_T30 l0 x5).f4.f1 = (wrap64 ((wrap64 ((wrap64 ((wrap64 ((wrap64 ((wrap64 ((wrap64 ((wrap64 (a + 1)) + 1)) + 1)) + 1)) + 1)) + 1)) + 1)) + 1)) from by rw [c8]; simp only [e1, e2, e3, e4, e5, e6, e7, e8, e9, e10, e11, e12]] at z8
    rw [show (rd_T30 l0 x5).f5 = (wrap64 ((wrap64 ((wrap64 ((wrap64 ((wrap64 ((wrap64 ((wrap64 ((wrap64 ((wrap64 (a + 1)) + 1)) + 1)) + 1)) + 1)) + 1)) + 1)) + 1)) + 1)) from by rw [c9]; simp only [e1, e2, e3, e4, e5, e6, e7, e8, e9, e10, e11, e12]] at z9
    rw [show (rd_T30 l0 x5).f6 = (Int.tmod (wrap64 ((wrap64 ((wrap64 ((wrap64 ((wrap64 ((wrap64 ((wrap64 ((wrap64 ((wrap64 ((wrap64 (a + 1)) + 1)) + 1)) + 1)) + 1)) + 1)) + 1)) + 1)) + 1)) + 1)) 3 == 0) from by rw [c10]; simp only [e1, e2, e3, e4, e5, e6, e7, e8, e9, e10, e11, e12]] at z10
    have hs : (rd_T30 l0 x5).f7 = s := by
     apply ByteArray.ext
     apply Array.ext'
     rw [← ByteArray.toList_eq, ← ByteArray.toList_eq]
     exact c11
    rw [hs] at z11
    clear es hmA hs c0 c1 c2 c3 c4 c5 c6 c7 c8 c9 c10 c11 ha0 ha1 hl hi1 hi2 hq2 hx5 e1 e2 e3 e4 e5 e6 e7 e8 e9 e10 e11 e12
    replace h0 := eq_true h0
    replace h1 := eq_true h1
    have qi1 : ∀ y : Int, (y != y) = false := fun y => bne_self_eq_false y
    have qi2 : ∀ y : Int, (y == y) = true := fun y => beq_self_eq_true y
    have qb1 : ∀ y : Bool, (y != y) = false := fun y => bne_self_eq_false y
    have qs1 : (s.toList == s.toList) = true := beq_self_eq_true _
    have qs2 : (s.toList != s.toList) = false := bne_self_eq_false _
    go_wp2_with fail
    go_region_with (go_at_call 51; refine (laws_markText.calls k _ s _ HES.out).mono ?_; rintro e t1 ⟨rfl, hb⟩; have n0 := Aside0.mk (below_step (by repeat (first | (with_reducible first | exact HB.out | apply pw_below_drewN | apply below_drew1) | exact HB.out)) hb); have y0 := (hb.cell (World.block_lt_of_cell? _ _ z0)).trans z0; have y1 := (hb.cell (World.block_lt_of_cell? _ _ z1)).trans z1; have y2 := (hb.cell (World.block_lt_of_cell? _ _ z2)).trans z2; have y3 := (hb.cell (World.block_lt_of_cell? _ _ z3)).trans z3; have y4 := (hb.cell (World.block_lt_of_cell? _ _ z4)).trans z4; have y5 := (hb.cell (World.block_lt_of_cell? _ _ z5)).trans z5; have y6 := (hb.cell (World.block_lt_of_cell? _ _ z6)).trans z6; have y7 := (hb.cell (World.block_lt_of_cell? _ _ z7)).trans z7; have y8 := (hb.cell (World.block_lt_of_cell? _ _ z8)).trans z8; have y9 := (hb.cell (World.block_lt_of_cell? _ _ z9)).trans z9; have y10 := (hb.cell (World.block_lt_of_cell? _ _ z10)).trans z10; have y11 := (hb.cell (World.block_lt_of_cell? _ _ z11)).trans z11; clear z0 z1 z2 z3 z4 z5 z6 z7 z8 z9 z10 z11; have z0 := y0; have z1 := y1; have z2 := y2; have z3 := y3; have z4 := y4; have z5 := y5; have z6 := y6; have z7 := y7; have z8 := y8; have z9 := y9; have z10 := y10; have z11 := y11; clear y0 y1 y2 y3 y4 y5 y6 y7 y8 y9 y10 y11; clear HB hb; have HB := n0; clear n0)
    all_goals
     go_wp2_with fail
     obtain ⟨⟨ha0, ha1⟩, hx5, hl, hq2, hi2⟩ := HA.out
     go_roundg k1
     case measure => omega
     case rel => exact ⟨i + 1, a + 12, (i + 1 : Nat), by rw [← HW12.out], by rw [hx5, wrapSucc i (by omega)], ⟨⟨by omega, by omega⟩, rfl, by omega, by omega⟩, HN, HB⟩
   ·rw [List.drop_of_length_le (by omega)] at hm
    simp only [heldL, Option.some.injEq] at hm
    subst hm
    have h1b : decide (x5 < (l0.length : Int)) = false := decide_eq_false (by omega)
    clear hl hi1 hi2 ha0 ha1 hx5 hq2
    go_wp2
    go_ret
    exact ⟨rfl, HB.out⟩

end Go.Proofs.Ytomigiindmojkaa.QK

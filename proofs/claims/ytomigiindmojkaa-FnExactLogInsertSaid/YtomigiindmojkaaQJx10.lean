/- A call of each function named here does what the Lean function of that name says. Conditions: each theorem's premises. Printed by the kit, repaired by a program, joined with texts by hand. -/
import Derived.Test.YtomigiindmojkaaQJx0
import Derived.Test.YtomigiindmojkaaQJx8
namespace Go.Proofs.Ytomigiindmojkaa.QJ
open Go.Proofs.Ytomigiindmojkaa.Base Go.RowKit Go.Proofs.YtomigiindmojkaaW.PrintWords Go.Proofs.YtomigiindmojkaaW.PrintLast Go.Proofs.YtomigiindmojkaaW.PrintMore
attribute [local go_sem] max2_int min2_int max_two min_two max_three min_three max_four min_four   -- for this text's walks alone
set_option linter.unusedVariables false
set_option linter.unusedSimpArgs false

/-! ### laws_heldOpS: function 34 -/
def isM (x : S30) (a : Int) (s : ByteArray) : Prop := x.f0.f0 = a ∧ x.f0.f1 = (a + 1) ∧ x.f1 = (a + 2) ∧ x.f2.f0 = (a + 3) ∧ x.f2.f1 = (a + 4) ∧ x.f3.f0 = (a + 5) ∧ x.f3.f1 = (a + 6) ∧ x.f4.f0 = (a + 7) ∧ x.f4.f1 = (a + 8) ∧ x.f5 = (a + 9) ∧ x.f6 = (Int.tmod (a + 10) 3 == 0) ∧ x.f7.toList = s.toList
instance (x : S30) (a : Int) (s : ByteArray) : Decidable (isM x a s) := by unfold isM; infer_instance
def heldL (k : Nat) : Int → List S30 → Option Int
 | a, [] => some a
 | a, x :: r => (laws_markText.f k (a + 11)).bind fun s => if isM x a s then heldL k (a + 12) r else none
theorem heldL_mono (k : Nat) : ∀ (l : List S30) (a : Int), LeO (heldL k a l) (heldL (k + 1) a l)
 | [], _ => LeO.refl _
 | _ :: r, a => by
  unfold heldL
  refine LeO.bind (laws_markText.mono _ _) (fun _ => ?_)
  exact LeO.ite (heldL_mono k r _) (LeO.refl _)
def laws_heldOpS.f (k : Nat) (l0 : List S30) (a1 : Int) : Option Int := if (0 ≤ a1 ∧ a1 + 12 * (l0.length : Int) ≤ 100000000000) ∧ l0.length ≤ 4000000 then heldL k a1 l0 else none
theorem laws_heldOpS.mono : ∀ a0 a1 k, LeO (laws_heldOpS.f k a0 a1) (laws_heldOpS.f (k + 1) a0 a1) := by
 intro a0 a1 k
 unfold laws_heldOpS.f
 exact LeO.ite (heldL_mono k _ _) (LeO.refl _)
theorem hdrop30 (xs : List S30) (x5 : Int) (i : Nat) (h : x5 = (i : Int)) (hl : i < xs.length) : xs.drop i = rd_T30 xs x5 :: xs.drop (i + 1) := by
 subst h
 rw [dropCons xs i hl]
 simp [rd_T30, hl]
set_option maxHeartbeats 8000000 in
set_option maxRecDepth 100000 in
theorem laws_heldOpS.calls (k : Nat) (A0 : Option Addr) (c0 : Nat) (l0 : List S30) (a1 : Int) (r : Int) (w : World) (hr0 : Kd.C k30 w A0 l0.length l0) (hc0 : l0.length ≤ c0) (h : laws_heldOpS.f k l0 a1 = some r) :
  Calls Try.prog 34 #[.slice A0 l0.length c0, .int .i64 a1] w fun e w' => e = .returned (.int .i64 r) ∧ Below w.heap.size w w' := by
 have hu1 := Try.underlying30
 have hu2 := Try.underlying28
 unfold laws_heldOpS.f at h
 by_cases hq : (0 ≤ a1 ∧ a1 + 12 * (l0.length : Int) ≤ 100000000000) ∧ l0.length ≤ 4000000
 case neg => rw [if_neg hq] at h; cases h
 rw [if_pos hq] at h
 have HR := am hr0
 have HB := am (Below.refl w.heap.size w)
 have HH := am (show heldL k a1 (l0.drop 0) = some r from h)
 have HQ := am hq
 clear hr0 hc0 h hq
 go_enter Try.func34, Try.ntmps34
 go_wp2
 go_loopg [1, 5] (l0.length + 1) (fun kq v1 v5 w' => ∃ (i : Nat) (a x5 : Int), v1 = .int .i64 a ∧ v5 = .int .i64 x5 ∧ Aside0 ((0 ≤ a ∧ a + 12 * (l0.length : Int) ≤ 100000000000 + 12 * (i : Int)) ∧ x5 = (i : Int) ∧ i ≤ l0.length ∧ i + kq = l0.length + 1) ∧ Aside0 (heldL k a (l0.drop i) = some r) ∧ Aside0 (Below w.heap.size w w'))
 case atStart => exact ⟨0, a1, 0, rfl, rfl, ⟨⟨HQ.out.1.1, by have := HQ.out.1.2; omega⟩, rfl, by omega, by omega⟩, HH, HB⟩
 case round =>
  clear HB HH
  obtain ⟨i, a, x5, rfl, rfl, HI, HH, HB⟩ := hrel
  obtain ⟨⟨ha0, ha1⟩, hx5, hi1, hi2⟩ := HI.out
  have hq2 := HQ.out.2
  have hm := HH.out
  clear HI HH HQ
  cases gk with
  | zero => omega
  | succ k1 =>
   by_cases hl : i < l0.length
   ·rw [hdrop30 l0 x5 i hx5 hl] at hm
    unfold heldL at hm
    obtain ⟨s, es, hmA⟩ := Option.bind_eq_some_iff.mp hm
    clear hm
    by_cases hc : isM (rd_T30 l0 x5) a s
    case neg => rw [if_neg hc] at hmA; cases hmA
    rw [if_pos hc] at hmA
    have HC := am hc
    clear hc
    have h0 : 0 ≤ x5 := by omega
    have h1 : x5 < (l0.length : Int) := by omega
    have h1b : decide (x5 < (l0.length : Int)) = true := decide_eq_true h1
    have HN := am hmA
    have HA := am (show (0 ≤ a ∧ a + 12 * (l0.length : Int) ≤ 100000000000 + 12 * (i : Int)) ∧ x5 = (i : Int) ∧ i < l0.length ∧ l0.length ≤ 4000000 ∧ i + (k1 + 1) = l0.length + 1 from ⟨⟨ha0, ha1⟩, hx5, hl, hq2, hi2⟩)
    have e1 : wrap64 (a + 1) = a + 1 := (wrapId (x := a + 1) (by omega) (by omega)).trans (by omega)
    have e2 : wrap64 (a + 1 + 1) = a + 2 := (wrapId (x := a + 1 + 1) (by omega) (by omega)).trans (by omega)
    have e3 : wrap64 (a + 2 + 1) = a + 3 := (wrapId (x := a + 2 + 1) (by omega) (by omega)).trans (by omega)
    have e4 : wrap64 (a + 3 + 1) = a + 4 := (wrapId (x := a + 3 + 1) (by omega) (by omega)).trans (by omega)
    have e5 : wrap64 (a + 4 + 1) = a + 5 := (wrapId (x := a + 4 + 1) (by omega) (by omega)).trans (by omega)
    have e6 : wrap64 (a + 5 + 1) = a + 6 := (wrapId (x := a + 5 + 1) (by omega) (by omega)).trans (by omega)
    have e7 : wrap64 (a + 6 + 1) = a + 7 := (wrapId (x := a + 6 + 1) (by omega) (by omega)).trans (by omega)
    have e8 : wrap64 (a + 7 + 1) = a + 8 := (wrapId (x := a + 7 + 1) (by omega) (by omega)).trans (by omega)
    have e9 : wrap64 (a + 8 + 1) = a + 9 := (wrapId (x := a + 8 + 1) (by omega) (by omega)).trans (by omega)
    have e10 : wrap64 (a + 9 + 1) = a + 10 := (wrapId (x := a + 9 + 1) (by omega) (by omega)).trans (by omega)
    have e11 : wrap64 (a + 10 + 1) = a + 11 := (wrapId (x := a + 10 + 1) (by omega) (by omega)).trans (by omega)
    have e12 : wrap64 (a + 11 + 1) = a + 12 := (wrapId (x := a + 11 + 1) (by omega) (by omega)).trans (by omega)
    replace es : laws_markText.f k (wrap64 ((wrap64 ((wrap64 ((wrap64 ((wrap64 ((wrap64 ((wrap64 ((wrap64 ((wrap64 ((wrap64 ((wrap64 (a + 1)) + 1)) + 1)) + 1)) + 1)) + 1)) + 1)) + 1)) + 1)) + 1)) + 1)) = some s := by simp only [e1, e2, e3, e4, e5, e6, e7, e8, e9, e10, e11, e12]; exact es
    have HES := am es
    have HW12 := am (show wrap64 ((wrap64 ((wrap64 ((wrap64 ((wrap64 ((wrap64 ((wrap64 ((wrap64 ((wrap64 ((wrap64 ((wrap64 ((wrap64 (a + 1)) + 1)) + 1)) + 1)) + 1)) + 1)) + 1)) + 1)) + 1)) + 1)) + 1)) + 1) = a + 12 by simp only [e1, e2, e3, e4, e5, e6, e7, e8, e9, e10, e11, e12])
    obtain ⟨c0, c1, c2, c3, c4, c5, c6, c7, c8, c9, c10, c11⟩ := HC.out
    clear HC
    obtain ⟨ad, e, z0, z1, z2, z3, z4, z5, z6, z7, z8, z9, z10, z11⟩ := at_T30 (Kd.C_below HR.out HB.out) x5 h0 h1
    subst e
    rw [show (rd_T30 l0 x5).f0.f0 = a from by rw [c0]] at z0
    rw [show (rd_T30 l0 x5).f0.f1 = (wrap64 (a + 1)) from by rw [c1]; simp only [e1, e2, e3, e4, e5, e6, e7, e8, e9, e10, e11, e12]] at z1
    rw [show (rd_T30 l0 x5).f1 = (wrap64 ((wrap64 (a + 1)) + 1)) from by rw [c2]; simp only [e1, e2, e3, e4, e5, e6, e7, e8, e9, e10, e11, e12]] at z2
    rw [show (rd_T30 l0 x5).f2.f0 = (wrap64 ((wrap64 ((wrap64 (a + 1)) + 1)) + 1)) from by rw [c3]; simp only [e1, e2, e3, e4, e5, e6, e7, e8, e9, e10, e11, e12]] at z3
    rw [show (rd_T30 l0 x5).f2.f1 = (wrap64 ((wrap64 ((wrap64 ((wrap64 (a + 1)) + 1)) + 1)) + 1)) from by rw [c4]; simp only [e1, e2, e3, e4, e5, e6, e7, e8, e9, e10, e11, e12]] at z4
    rw [show (rd_T30 l0 x5).f3.f0 = (wrap64 ((wrap64 ((wrap64 ((wrap64 ((wrap64 (a + 1)) + 1)) + 1)) + 1)) + 1)) from by rw [c5]; simp only [e1, e2, e3, e4, e5, e6, e7, e8, e9, e10, e11, e12]] at z5
    rw [show (rd_T30 l0 x5).f3.f1 = (wrap64 ((wrap64 ((wrap64 ((wrap64 ((wrap64 ((wrap64 (a + 1)) + 1)) + 1)) + 1)) + 1)) + 1)) from by rw [c6]; simp only [e1, e2, e3, e4, e5, e6, e7, e8, e9, e10, e11, e12]] at z6
    rw [show (rd_T30 l0 x5).f4.f0 = (wrap64 ((wrap64 ((wrap64 ((wrap64 ((wrap64 ((wrap64 ((wrap64 (a + 1)) + 1)) + 1)) + 1)) + 1)) + 1)) + 1)) from by rw [c7]; simp only [e1, e2, e3, e4, e5, e6, e7, e8, e9, e10, e11, e12]] at z7
    rw [show (rd_T30 l0 x5).f4.f1 = (wrap64 ((wrap64 ((wrap64 ((wrap64 ((wrap64 ((wrap64 ((wrap64 ((wrap64 (a + 1)) + 1)) + 1)) + 1)) + 1)) + 1)) + 1)) + 1)) from by rw [c8]; simp only [e1, e2, e3, e4, e5, e6, e7, e8, e9, e10, e11, e12]] at z8
    rw [show (rd_T30 l0 x5).f5 = (wrap64 ((wrap64 ((wrap64 ((wrap64 ((wrap64 ((wrap64 ((wrap64 ((wrap64 ((wrap64 (a + 1)) + 1)) + 1)) + 1)) + 1)) + 1)) + 1)) + 1)) + 1)) from by rw [c9]; simp only [e1, e2, e3, e4, e5, e6, e7, e8, e9, e10, e11, e12]] at z9
    rw [show (rd_T30 l0 x5).f6 = (Int.tmod (wrap64 ((wrap64 ((wrap64 ((wrap64 ((wrap64 ((wrap64 ((wrap64 ((wrap64 ((wrap64 ((wrap64 (a + 1)) + 1)) + 1)) + 1)) + 1)) + 1)) + 1)) + 1)) + 1)) + 1)) 3 == 0) from by rw [c10]; simp only [e1, e2, e3, e4, e5, e6, e7, e8, e9, e10, e11, e12]] at z10
    have hs : (rd_T30 l0 x5).f7 = s := by
     apply ByteArray.ext
     apply Array.ext'
     rw [← ByteArray.toList_eq, ← ByteArray.toList_eq]
     exact c11
    rw [hs] at z11
    clear es hmA hs c0 c1 c2 c3 c4 c5 c6 c7 c8 c9 c10 c11 ha0 ha1 hl hi1 hi2 hq2 hx5 e1 e2 e3 e4 e5 e6 e7 e8 e9 e10 e11 e12
    replace h0 := eq_true h0
    replace h1 := eq_true h1
    have qi1 : ∀ y : Int, (y != y) = false := fun y => bne_self_eq_false y
    have qi2 : ∀ y : Int, (y == y) = true := fun y => beq_self_eq_true y
    have qb1 : ∀ y : Bool, (y != y) = false := fun y => bne_self_eq_false y
    have qs1 : (s.toList == s.toList) = true := beq_self_eq_true _
    have qs2 : (s.toList != s.toList) = false := bne_self_eq_false _
    go_wp2_with fail
    go_region_with (go_at_call 51; refine (laws_markText.calls k _ s _ HES.out).mono ?_; rintro e t1 ⟨rfl, hb⟩; have n0 := am (below_step (by repeat (first | (with_reducible first | exact HB.out | apply pw_below_drewN | apply below_drew1) | exact HB.out)) hb); have y0 := (hb.cell (World.block_lt_of_cell? _ _ z0)).trans z0; have y1 := (hb.cell (World.block_lt_of_cell? _ _ z1)).trans z1; have y2 := (hb.cell (World.block_lt_of_cell? _ _ z2)).trans z2; have y3 := (hb.cell (World.block_lt_of_cell? _ _ z3)).trans z3; have y4 := (hb.cell (World.block_lt_of_cell? _ _ z4)).trans z4; have y5 := (hb.cell (World.block_lt_of_cell? _ _ z5)).trans z5; have y6 := (hb.cell (World.block_lt_of_cell? _ _ z6)).trans z6; have y7 := (hb.cell (World.block_lt_of_cell? _ _ z7)).trans z7; have y8 := (hb.cell (World.block_lt_of_cell? _ _ z8)).trans z8; have y9 := (hb.cell (World.block_lt_of_cell? _ _ z9)).trans z9; have y10 := (hb.cell (World.block_lt_of_cell? _ _ z10)).trans z10; have y11 := (hb.cell (World.block_lt_of_cell? _ _ z11)).trans z11; clear z0 z1 z2 z3 z4 z5 z6 z7 z8 z9 z10 z11; have z0 := y0; have z1 := y1; have z2 := y2; have z3 := y3; have z4 := y4; have z5 := y5; have z6 := y6; have z7 := y7; have z8 := y8; have z9 := y9; have z10 := y10; have z11 := y11; clear y0 y1 y2 y3 y4 y5 y6 y7 y8 y9 y10 y11; clear HB hb; have HB := n0; clear n0)
    all_goals
     go_wp2_with fail
     obtain ⟨⟨ha0, ha1⟩, hx5, hl, hq2, hi2⟩ := HA.out
     go_roundg k1
     case measure => omega
     case rel => exact ⟨i + 1, a + 12, (i + 1 : Nat), by rw [← HW12.out], by rw [hx5, wrapSucc i (by omega)], ⟨⟨by omega, by omega⟩, rfl, by omega, by omega⟩, HN, HB⟩
   ·rw [List.drop_of_length_le (by omega)] at hm
    simp only [heldL, Option.some.injEq] at hm
    subst hm
    have h1b : decide (x5 < (l0.length : Int)) = false := decide_eq_false (by omega)
    clear hl hi1 hi2 ha0 ha1 hx5 hq2
    go_wp2
    go_ret
    exact ⟨rfl, HB.out⟩

/-! ### spec_inRange: function 64 -/
def spec_inRange.f (a0 : Int) (a1 : Int) (a2 : Int) : Option (Bool) := if a0 ≥ a1 then (some (decide (a0 ≤ a2))) else (some false)
set_option maxHeartbeats 8000000 in
set_option maxRecDepth 100000 in
theorem spec_inRange.calls (a0 : Int) (a1 : Int) (a2 : Int) (r : Bool) (w : World) (h : spec_inRange.f a0 a1 a2 = some r) :
  Calls Try.prog 64 #[.int .i64 a0, .int .i64 a1, .int .i64 a2] w fun e w' => e = .returned (.bool r) ∧ Drawn0 w w' := by
 have H : (if a0 ≥ a1 then (some (decide (a0 ≤ a2))) else (some false)) = some r := h
 clear h
 by_cases c4 : a0 ≥ a1
 ·rw [if_pos c4] at H
  have c4b0 : decide (a1 ≤ a0) = true := decide_eq_true c4
  clear c4
  obtain rfl := Option.some.inj H
  go_enter Try.func64, Try.ntmps64
  go_wp2
  go_ret
  exact ⟨by first | rfl | (simp; done) | (simp [*]; done), by repeat (first | exact Drawn0.refl _ | apply Drawn0.step)⟩
 ·rw [if_neg c4] at H
  have c4b0 : decide (a1 ≤ a0) = false := decide_eq_false c4
  clear c4
  obtain rfl := Option.some.inj H
  go_enter Try.func64, Try.ntmps64
  go_wp2
  go_ret
  exact ⟨by first | rfl | (simp; done) | (simp [*]; done), by repeat (first | exact Drawn0.refl _ | apply Drawn0.step)⟩

/-! ### spec_validStamp: function 61 -/
def spec_validStamp.f (a0_0 : Int) (a0_1 : Int) : Option (Bool) := (spec_inRange.f a0_0 1 99).bind fun t144 => (if t144 = true then ((spec_inRange.f a0_1 0 2).bind fun t145 => (some t145)) else (some false))
set_option maxHeartbeats 8000000 in
set_option maxRecDepth 100000 in
theorem spec_validStamp.calls (a0_0 : Int) (a0_1 : Int) (r : Bool) (w : World) (h : spec_validStamp.f a0_0 a0_1 = some r) :
  Calls Try.prog 61 #[.agg #[.int .i64 a0_0, .int .i64 a0_1]] w fun e w' => e = .returned (.bool r) ∧ Below w.heap.size w w' := by
 have hu28 := Try.underlying28
 have HB := am (Below.refl w.heap.size w)
 have H : ((spec_inRange.f a0_0 1 99).bind fun t144 => (if t144 = true then ((spec_inRange.f a0_1 0 2).bind fun t145 => (some t145)) else (some false))) = some r := h
 clear h
 replace H := Option.bind_eq_some_iff.mp H
 obtain ⟨t144, A20, H⟩ := H
 replace H : (if t144 = true then ((spec_inRange.f a0_1 0 2).bind fun t145 => (some t145)) else (some false)) = some r := H
 have A2 := am A20
 clear A20
 by_cases c3 : t144 = true
 ·subst c3
  have H1 : ((spec_inRange.f a0_1 0 2).bind fun t145 => (some t145)) = some r := by rw [if_pos rfl] at H; exact H
  clear H
  have H := H1
  clear H1
  replace H := Option.bind_eq_some_iff.mp H
  obtain ⟨t145, A40, H⟩ := H
  replace H : (some t145) = some r := H
  have A4 := am A40
  clear A40
  obtain rfl := Option.some.inj H
  go_enter Try.func61, Try.ntmps61
  go_wp2_with (first | ((with_reducible refine gate_dst (N := 1) rfl ?_); refine box_event ?hg (N := 1) ?hd (cs := #[.int .i64 a0_0, .int .i64 a0_1]) (t := 28) ?hr ?_; (case hd => rfl); (case hg => rfl); (case hr => first | (go_simp; done) | (go_simp; rfl)); intro gb143 hg w5 hbox hb; have n0_ := am (below_step (by repeat (first | (with_reducible first | exact HB.out | apply below_alloc | apply pw_below_drewN | apply below_drew1) | exact HB.out)) hb); have n1_ := am (hbox); have n2_ := am ((by rw [hg]; exact (below_size (by repeat (first | (with_reducible first | exact HB.out | apply below_alloc | apply pw_below_drewN | apply below_drew1) | exact HB.out))) : w.heap.size ≤ gb143)); have n3_ := am ((by rw [hg]; exact (below_size (by repeat (first | (with_reducible first | exact HB.out | apply below_alloc | apply pw_below_drewN | apply below_drew1) | exact HB.out))) : w.heap.size ≤ gb143)); clear HB; have HB := n0_; have BK143 := n1_; have GW143 := n2_; have GE143 := n3_; clear n0_ n1_ n2_ n3_; clear hb hbox hg; have hcz6_0 : w5.cell? ⟨gb143, 0, none⟩ = some (.int .i64 a0_0) := (blk_cell BK143.out 0).trans rfl; have hcz6_1 : w5.cell? ⟨gb143, 1, none⟩ = some (.int .i64 a0_1) := (blk_cell BK143.out 1).trans rfl; have hfz6_0 := blk_frozen BK143.out 0; have hfz6_1 := blk_frozen BK143.out 1) | ((with_reducible refine gate_callee (f := 64) rfl ?_); refine goesL_ (some 5) rfl rfl Try.func64 (by kernel_rfl) rfl #[.int .i64 a0_0, .int .i64 1, .int .i64 99] rfl (by (try simp only [List.map_toArray, List.map_cons, List.map_nil]); first | done | rfl | (simp only [List.length_drop, List.length_take]; rfl)) ?_; (with_reducible refine (spec_inRange.calls a0_0 1 99 true _ A2.out).mono ?_); rintro e w' ⟨rfl, ⟨nd, rfl⟩⟩; refine ⟨_, rfl, ?_⟩) | (go_at_call 64; (with_reducible refine (spec_inRange.calls a0_1 0 2 t145 _ A4.out).mono ?_); rintro e w' ⟨rfl, ⟨nd, rfl⟩⟩))
  go_ret
  exact ⟨by first | rfl | (simp [errW_none, errW_some] <;> rfl) | (simp [*, errW_none, errW_some] <;> rfl), by repeat (first | (with_reducible first | exact HB.out | apply below_alloc | apply pw_below_drewN | apply below_drew1 | refine below_set ?_ GE143.out) | exact HB.out)⟩
 ·replace c3 := Bool.eq_false_iff.mpr c3
  subst c3
  have H1 : (some false) = some r := by rw [if_neg (show ¬ (false = true) by decide)] at H; exact H
  clear H
  have H := H1
  clear H1
  obtain rfl := Option.some.inj H
  go_enter Try.func61, Try.ntmps61
  go_wp2_with (first | ((with_reducible refine gate_dst (N := 1) rfl ?_); refine box_event ?hg (N := 1) ?hd (cs := #[.int .i64 a0_0, .int .i64 a0_1]) (t := 28) ?hr ?_; (case hd => rfl); (case hg => rfl); (case hr => first | (go_simp; done) | (go_simp; rfl)); intro gb143 hg w7 hbox hb; have n0_ := am (below_step (by repeat (first | (with_reducible first | exact HB.out | apply below_alloc | apply pw_below_drewN | apply below_drew1) | exact HB.out)) hb); have n1_ := am (hbox); have n2_ := am ((by rw [hg]; exact (below_size (by repeat (first | (with_reducible first | exact HB.out | apply below_alloc | apply pw_below_drewN | apply below_drew1) | exact HB.out))) : w.heap.size ≤ gb143)); have n3_ := am ((by rw [hg]; exact (below_size (by repeat (first | (with_reducible first | exact HB.out | apply below_alloc | apply pw_below_drewN | apply below_drew1) | exact HB.out))) : w.heap.size ≤ gb143)); clear HB; have HB := n0_; have BK143 := n1_; have GW143 := n2_; have GE143 := n3_; clear n0_ n1_ n2_ n3_; clear hb hbox hg; have hcz8_0 : w7.cell? ⟨gb143, 0, none⟩ = some (.int .i64 a0_0) := (blk_cell BK143.out 0).trans rfl; have hcz8_1 : w7.cell? ⟨gb143, 1, none⟩ = some (.int .i64 a0_1) := (blk_cell BK143.out 1).trans rfl; have hfz8_0 := blk_frozen BK143.out 0; have hfz8_1 := blk_frozen BK143.out 1) | ((with_reducible refine gate_callee (f := 64) rfl ?_); refine goesL_ (some 5) rfl rfl Try.func64 (by kernel_rfl) rfl #[.int .i64 a0_0, .int .i64 1, .int .i64 99] rfl (by (try simp only [List.map_toArray, List.map_cons, List.map_nil]); first | done | rfl | (simp only [List.length_drop, List.length_take]; rfl)) ?_; (with_reducible refine (spec_inRange.calls a0_0 1 99 false _ A2.out).mono ?_); rintro e w' ⟨rfl, ⟨nd, rfl⟩⟩; refine ⟨_, rfl, ?_⟩))
  go_ret
  exact ⟨by first | rfl | (simp [errW_none, errW_some] <;> rfl) | (simp [*, errW_none, errW_some] <;> rfl), by repeat (first | (with_reducible first | exact HB.out | apply below_alloc | apply pw_below_drewN | apply below_drew1 | refine below_set ?_ GE143.out) | exact HB.out)⟩

/-! ### spec_stampLess: function 67 -/
def spec_stampLess.f (a0_0 : Int) (a0_1 : Int) (a1_0 : Int) (a1_1 : Int) : Option (Bool) := if a0_0 < a1_0 then (some true) else (if a0_0 = a1_0 then (some (decide (a0_1 < a1_1))) else (some false))
set_option maxHeartbeats 8000000 in
set_option maxRecDepth 100000 in
theorem spec_stampLess.calls (a0_0 : Int) (a0_1 : Int) (a1_0 : Int) (a1_1 : Int) (r : Bool) (w : World) (h : spec_stampLess.f a0_0 a0_1 a1_0 a1_1 = some r) :
  Calls Try.prog 67 #[.agg #[.int .i64 a0_0, .int .i64 a0_1], .agg #[.int .i64 a1_0, .int .i64 a1_1]] w fun e w' => e = .returned (.bool r) ∧ Below w.heap.size w w' := by
 have hu28 := Try.underlying28
 have HB := am (Below.refl w.heap.size w)
 have H : (if a0_0 < a1_0 then (some true) else (if a0_0 = a1_0 then (some (decide (a0_1 < a1_1))) else (some false))) = some r := h
 clear h
 by_cases c3 : a0_0 < a1_0
 ·rw [if_pos c3] at H
  have c3b0 : decide (a0_0 < a1_0) = true := decide_eq_true c3
  clear c3
  obtain rfl := Option.some.inj H
  go_enter Try.func67, Try.ntmps67
  go_wp2_with (first | ((with_reducible refine gate_dst (N := 2) rfl ?_); refine box_event ?hg (N := 2) ?hd (cs := #[.int .i64 a0_0, .int .i64 a0_1]) (t := 28) ?hr ?_; (case hd => rfl); (case hg => rfl); (case hr => first | (go_simp; done) | (go_simp; rfl)); intro gb146 hg w4 hbox hb; have n0_ := am (below_step (by repeat (first | (with_reducible first | exact HB.out | apply below_alloc | apply pw_below_drewN | apply below_drew1) | exact HB.out)) hb); have n1_ := am (hbox); have n2_ := am ((by rw [hg]; exact (below_size (by repeat (first | (with_reducible first | exact HB.out | apply below_alloc | apply pw_below_drewN | apply below_drew1) | exact HB.out))) : w.heap.size ≤ gb146)); have n3_ := am ((by rw [hg]; exact (below_size (by repeat (first | (with_reducible first | exact HB.out | apply below_alloc | apply pw_below_drewN | apply below_drew1) | exact HB.out))) : w.heap.size ≤ gb146)); clear HB; have HB := n0_; have BK146 := n1_; have GW146 := n2_; have GE146 := n3_; clear n0_ n1_ n2_ n3_; clear hb hbox hg) | ((with_reducible refine gate_dst (N := 3) rfl ?_); refine box_event ?hg (N := 3) ?hd (cs := #[.int .i64 a1_0, .int .i64 a1_1]) (t := 28) ?hr ?_; (case hd => rfl); (case hg => rfl); (case hr => first | (go_simp; done) | (go_simp; rfl)); intro gb147 hg w5 hbox hb; have n0_ := am (blk_below (g := gb146) (o := .cells #[.int .i64 a0_0, .int .i64 a0_1] 28 (0, 0)) (by (with_reducible repeat (first | refine blk_drewN ?_ _ | refine blk_drew ?_ | refine blk_alloc ?_ _)); exact BK146.out) hb); have n1_ := am (below_step (by repeat (first | (with_reducible first | exact HB.out | apply below_alloc | apply pw_below_drewN | apply below_drew1 | refine below_set ?_ GE146.out) | exact HB.out)) hb); have n2_ := am (hbox); have n3_ := am ((by rw [hg]; exact (below_size (by repeat (first | (with_reducible first | exact HB.out | apply below_alloc | apply pw_below_drewN | apply below_drew1 | refine below_set ?_ GE146.out) | exact HB.out))) : w.heap.size ≤ gb147)); have n4_ := am ((by rw [hg]; exact (below_size (by repeat (first | (with_reducible first | exact HB.out | apply below_alloc | apply pw_below_drewN | apply below_drew1 | refine below_set ?_ GE146.out) | exact HB.out))) : w.heap.size ≤ gb147)); have n5_ := am ((by rw [hg]; exact Nat.ne_of_lt (blk_lt (g := gb146) (o := .cells #[.int .i64 a0_0, .int .i64 a0_1] 28 (0, 0)) (by (with_reducible repeat (first | refine blk_drewN ?_ _ | refine blk_drew ?_ | refine blk_alloc ?_ _)); exact BK146.out)) : gb146 ≠ gb147)); have n6_ := am ((by rw [hg]; exact Nat.ne_of_gt (blk_lt (g := gb146) (o := .cells #[.int .i64 a0_0, .int .i64 a0_1] 28 (0, 0)) (by (with_reducible repeat (first | refine blk_drewN ?_ _ | refine blk_drew ?_ | refine blk_alloc ?_ _)); exact BK146.out)) : gb147 ≠ gb146)); clear BK146; clear HB; have BK146 := n0_; have HB := n1_; have BK147 := n2_; have GW147 := n3_; have GE147 := n4_; have NB146_147 := n5_; have NB147_146 := n6_; clear n0_ n1_ n2_ n3_ n4_ n5_ n6_; clear hb hbox hg; have hnb6 := NB146_147.out; have hnc6 := NB147_146.out; have hcz7_0 : w5.cell? ⟨gb146, 0, none⟩ = some (.int .i64 a0_0) := (blk_cell BK146.out 0).trans rfl; have hcz7_1 : w5.cell? ⟨gb146, 1, none⟩ = some (.int .i64 a0_1) := (blk_cell BK146.out 1).trans rfl; have hfz7_0 := blk_frozen BK146.out 0; have hfz7_1 := blk_frozen BK146.out 1; have hcz8_0 : w5.cell? ⟨gb147, 0, none⟩ = some (.int .i64 a1_0) := (blk_cell BK147.out 0).trans rfl; have hcz8_1 : w5.cell? ⟨gb147, 1, none⟩ = some (.int .i64 a1_1) := (blk_cell BK147.out 1).trans rfl; have hfz8_0 := blk_frozen BK147.out 0; have hfz8_1 := blk_frozen BK147.out 1))
  go_ret
  exact ⟨by first | rfl | (simp [errW_none, errW_some] <;> rfl) | (simp [*, errW_none, errW_some] <;> rfl), by repeat (first | (with_reducible first | exact HB.out | apply below_alloc | apply pw_below_drewN | apply below_drew1 | refine below_set ?_ GE146.out | refine below_set ?_ GE147.out) | exact HB.out)⟩
 ·rw [if_neg c3] at H
  have c3b0 : decide (a0_0 < a1_0) = false := decide_eq_false c3
  clear c3
  by_cases c9 : a0_0 = a1_0
  ·rw [if_pos c9] at H
   have c9b0 : (a0_0 == a1_0) = true := beq_iff_eq.mpr c9
   have c9b1 : (a0_0 != a1_0) = false := bne_eq_false_iff_eq.mpr c9
   clear c9
   obtain rfl := Option.some.inj H
   go_enter Try.func67, Try.ntmps67
   go_wp2_with (first | ((with_reducible refine gate_dst (N := 2) rfl ?_); refine box_event ?hg (N := 2) ?hd (cs := #[.int .i64 a0_0, .int .i64 a0_1]) (t := 28) ?hr ?_; (case hd => rfl); (case hg => rfl); (case hr => first | (go_simp; done) | (go_simp; rfl)); intro gb146 hg w10 hbox hb; have n0_ := am (below_step (by repeat (first | (with_reducible first | exact HB.out | apply below_alloc | apply pw_below_drewN | apply below_drew1) | exact HB.out)) hb); have n1_ := am (hbox); have n2_ := am ((by rw [hg]; exact (below_size (by repeat (first | (with_reducible first | exact HB.out | apply below_alloc | apply pw_below_drewN | apply below_drew1) | exact HB.out))) : w.heap.size ≤ gb146)); have n3_ := am ((by rw [hg]; exact (below_size (by repeat (first | (with_reducible first | exact HB.out | apply below_alloc | apply pw_below_drewN | apply below_drew1) | exact HB.out))) : w.heap.size ≤ gb146)); clear HB; have HB := n0_; have BK146 := n1_; have GW146 := n2_; have GE146 := n3_; clear n0_ n1_ n2_ n3_; clear hb hbox hg) | ((with_reducible refine gate_dst (N := 3) rfl ?_); refine box_event ?hg (N := 3) ?hd (cs := #[.int .i64 a1_0, .int .i64 a1_1]) (t := 28) ?hr ?_; (case hd => rfl); (case hg => rfl); (case hr => first | (go_simp; done) | (go_simp; rfl)); intro gb147 hg w11 hbox hb; have n0_ := am (blk_below (g := gb146) (o := .cells #[.int .i64 a0_0, .int .i64 a0_1] 28 (0, 0)) (by (with_reducible repeat (first | refine blk_drewN ?_ _ | refine blk_drew ?_ | refine blk_alloc ?_ _)); exact BK146.out) hb); have n1_ := am (below_step (by repeat (first | (with_reducible first | exact HB.out | apply below_alloc | apply pw_below_drewN | apply below_drew1 | refine below_set ?_ GE146.out) | exact HB.out)) hb); have n2_ := am (hbox); have n3_ := am ((by rw [hg]; exact (below_size (by repeat (first | (with_reducible first | exact HB.out | apply below_alloc | apply pw_below_drewN | apply below_drew1 | refine below_set ?_ GE146.out) | exact HB.out))) : w.heap.size ≤ gb147)); have n4_ := am ((by rw [hg]; exact (below_size (by repeat (first | (with_reducible first | exact HB.out | apply below_alloc | apply pw_below_drewN | apply below_drew1 | refine below_set ?_ GE146.out) | exact HB.out))) : w.heap.size ≤ gb147)); have n5_ := am ((by rw [hg]; exact Nat.ne_of_lt (blk_lt (g := gb146) (o := .cells #[.int .i64 a0_0, .int .i64 a0_1] 28 (0, 0)) (by (with_reducible repeat (first | refine blk_drewN ?_ _ | refine blk_drew ?_ | refine blk_alloc ?_ _)); exact BK146.out)) : gb146 ≠ gb147)); have n6_ := am ((by rw [hg]; exact Nat.ne_of_gt (blk_lt (g := gb146) (o := .cells #[.int .i64 a0_0, .int .i64 a0_1] 28 (0, 0)) (by (with_reducible repeat (first | refine blk_drewN ?_ _ | refine blk_drew ?_ | refine blk_alloc ?_ _)); exact BK146.out)) : gb147 ≠ gb146)); clear BK146; clear HB; have BK146 := n0_; have HB := n1_; have BK147 := n2_; have GW147 := n3_; have GE147 := n4_; have NB146_147 := n5_; have NB147_146 := n6_; clear n0_ n1_ n2_ n3_ n4_ n5_ n6_; clear hb hbox hg; have hnb12 := NB146_147.out; have hnc12 := NB147_146.out; have hcz13_0 : w11.cell? ⟨gb146, 0, none⟩ = some (.int .i64 a0_0) := (blk_cell BK146.out 0).trans rfl; have hcz13_1 : w11.cell? ⟨gb146, 1, none⟩ = some (.int .i64 a0_1) := (blk_cell BK146.out 1).trans rfl; have hfz13_0 := blk_frozen BK146.out 0; have hfz13_1 := blk_frozen BK146.out 1; have hcz14_0 : w11.cell? ⟨gb147, 0, none⟩ = some (.int .i64 a1_0) := (blk_cell BK147.out 0).trans rfl; have hcz14_1 : w11.cell? ⟨gb147, 1, none⟩ = some (.int .i64 a1_1) := (blk_cell BK147.out 1).trans rfl; have hfz14_0 := blk_frozen BK147.out 0; have hfz14_1 := blk_frozen BK147.out 1))
   go_ret
   exact ⟨by first | rfl | (simp [errW_none, errW_some] <;> rfl) | (simp [*, errW_none, errW_some] <;> rfl), by repeat (first | (with_reducible first | exact HB.out | apply below_alloc | apply pw_below_drewN | apply below_drew1 | refine below_set ?_ GE146.out | refine below_set ?_ GE147.out) | exact HB.out)⟩
  ·rw [if_neg c9] at H
   have c9b0 : (a0_0 == a1_0) = false := beq_eq_false_iff_ne.mpr c9
   have c9b1 : (a0_0 != a1_0) = true := bne_iff_ne.mpr c9
   obtain rfl := Option.some.inj H
   go_enter Try.func67, Try.ntmps67
   go_wp2_with (first | ((with_reducible refine gate_dst (N := 2) rfl ?_); refine box_event ?hg (N := 2) ?hd (cs := #[.int .i64 a0_0, .int .i64 a0_1]) (t := 28) ?hr ?_; (case hd => rfl); (case hg => rfl); (case hr => first | (go_simp; done) | (go_simp; rfl)); intro gb146 hg w15 hbox hb; have n0_ := am (below_step (by repeat (first | (with_reducible first | exact HB.out | apply below_alloc | apply pw_below_drewN | apply below_drew1) | exact HB.out)) hb); have n1_ := am (hbox); have n2_ := am ((by rw [hg]; exact (below_size (by repeat (first | (with_reducible first | exact HB.out | apply below_alloc | apply pw_below_drewN | apply below_drew1) | exact HB.out))) : w.heap.size ≤ gb146)); have n3_ := am ((by rw [hg]; exact (below_size (by repeat (first | (with_reducible first | exact HB.out | apply below_alloc | apply pw_below_drewN | apply below_drew1) | exact HB.out))) : w.heap.size ≤ gb146)); clear HB; have HB := n0_; have BK146 := n1_; have GW146 := n2_; have GE146 := n3_; clear n0_ n1_ n2_ n3_; clear hb hbox hg) | ((with_reducible refine gate_dst (N := 3) rfl ?_); refine box_event ?hg (N := 3) ?hd (cs := #[.int .i64 a1_0, .int .i64 a1_1]) (t := 28) ?hr ?_; (case hd => rfl); (case hg => rfl); (case hr => first | (go_simp; done) | (go_simp; rfl)); intro gb147 hg w16 hbox hb; have n0_ := am (blk_below (g := gb146) (o := .cells #[.int .i64 a0_0, .int .i64 a0_1] 28 (0, 0)) (by (with_reducible repeat (first | refine blk_drewN ?_ _ | refine blk_drew ?_ | refine blk_alloc ?_ _)); exact BK146.out) hb); have n1_ := am (below_step (by repeat (first | (with_reducible first | exact HB.out | apply below_alloc | apply pw_below_drewN | apply below_drew1 | refine below_set ?_ GE146.out) | exact HB.out)) hb); have n2_ := am (hbox); have n3_ := am ((by rw [hg]; exact (below_size (by repeat (first | (with_reducible first | exact HB.out | apply below_alloc | apply pw_below_drewN | apply below_drew1 | refine below_set ?_ GE146.out) | exact HB.out))) : w.heap.size ≤ gb147)); have n4_ := am ((by rw [hg]; exact (below_size (by repeat (first | (with_reducible first | exact HB.out | apply below_alloc | apply pw_below_drewN | apply below_drew1 | refine below_set ?_ GE146.out) | exact HB.out))) : w.heap.size ≤ gb147)); have n5_ := am ((by rw [hg]; exact Nat.ne_of_lt (blk_lt (g := gb146) (o := .cells #[.int .i64 a0_0, .int .i64 a0_1] 28 (0, 0)) (by (with_reducible repeat (first | refine blk_drewN ?_ _ | refine blk_drew ?_ | refine blk_alloc ?_ _)); exact BK146.out)) : gb146 ≠ gb147)); have n6_ := am ((by rw [hg]; exact Nat.ne_of_gt (blk_lt (g := gb146) (o := .cells #[.int .i64 a0_0, .int .i64 a0_1] 28 (0, 0)) (by (with_reducible repeat (first | refine blk_drewN ?_ _ | refine blk_drew ?_ | refine blk_alloc ?_ _)); exact BK146.out)) : gb147 ≠ gb146)); clear BK146; clear HB; have BK146 := n0_; have HB := n1_; have BK147 := n2_; have GW147 := n3_; have GE147 := n4_; have NB146_147 := n5_; have NB147_146 := n6_; clear n0_ n1_ n2_ n3_ n4_ n5_ n6_; clear hb hbox hg; have hnb17 := NB146_147.out; have hnc17 := NB147_146.out; have hcz18_0 : w16.cell? ⟨gb146, 0, none⟩ = some (.int .i64 a0_0) := (blk_cell BK146.out 0).trans rfl; have hcz18_1 : w16.cell? ⟨gb146, 1, none⟩ = some (.int .i64 a0_1) := (blk_cell BK146.out 1).trans rfl; have hfz18_0 := blk_frozen BK146.out 0; have hfz18_1 := blk_frozen BK146.out 1; have hcz19_0 : w16.cell? ⟨gb147, 0, none⟩ = some (.int .i64 a1_0) := (blk_cell BK147.out 0).trans rfl; have hcz19_1 : w16.cell? ⟨gb147, 1, none⟩ = some (.int .i64 a1_1) := (blk_cell BK147.out 1).trans rfl; have hfz19_0 := blk_frozen BK147.out 0; have hfz19_1 := blk_frozen BK147.out 1))
   go_ret
   exact ⟨by first | rfl | (simp [errW_none, errW_some] <;> rfl) | (simp [*, errW_none, errW_some] <;> rfl), by repeat (first | (with_reducible first | exact HB.out | apply below_alloc | apply pw_below_drewN | apply below_drew1 | refine below_set ?_ GE146.out | refine below_set ?_ GE147.out) | exact HB.out)⟩

end Go.Proofs.Ytomigiindmojkaa.QJ

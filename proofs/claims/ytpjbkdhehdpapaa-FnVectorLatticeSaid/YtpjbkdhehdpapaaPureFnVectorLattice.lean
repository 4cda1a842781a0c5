/- The plain side of the statement FnVectorLattice: the printed functions answer true at every input. Conditions: none beyond the given statement's own. -/
import Derived.Test.YtpjbkdhehdpapaaQLx3
import Derived.Test.YtpjbkdhehdpapaaBase
namespace Go.Proofs.Ytpjbkdhehdpapaa.Pure
open Go.RowKit Go.Proofs.Ytpjbkdhehdpapaa.QL Go.Proofs.YtpjbkdhehdpapaaW.PrintWords Go.Proofs.YtpjbkdhehdpapaaW.PrintLast Go.Proofs.Ytpjbkdhehdpapaa.Base
set_option linter.unusedVariables false
set_option linter.unusedSimpArgs false

def inV (x : Int) : Bool := decide (0 ≤ x ∧ x ≤ 99)
/-- A valid vector: three entries of 0 to 99. -/
def vv (l : List Int) : Bool := l.all inV && decide (l.length = 3)
theorem vv_length {l : List Int} (h : vv l = true) : l.length = 3 := by
  simp only [vv, Bool.and_eq_true, decide_eq_true_eq] at h
  exact h.2
theorem vv_form {l : List Int} (h : vv l = true) : ∃ a b c, l = [a, b, c] ∧ (0 ≤ a ∧ a ≤ 99) ∧ (0 ≤ b ∧ b ≤ 99) ∧ (0 ≤ c ∧ c ≤ 99) := by
  have hl := vv_length h
  match l, hl with
  | [a, b, c], _ =>
    simp [vv, inV] at h
    exact ⟨a, b, c, rfl, h⟩
def iota (a : Int) (n : Nat) : List Int := (List.range n).map fun i : Nat => a + (i : Int)
theorem iota_length (a : Int) (n : Nat) : (iota a n).length = n := by simp [iota]
theorem iota_succ (a : Int) (n : Nat) : iota a (n + 1) = a :: iota (a + 1) n := by
  simp only [iota, List.range_succ_eq_map, List.map_cons, List.map_map]
  congr 1
  · simp
  · apply List.map_congr_left; intro i _; simp only [Function.comp]; omega
theorem eq_spec_inRange (a lo hi : Int) : spec_inRange.f a lo hi = some (decide (lo ≤ a ∧ a ≤ hi)) := by
  unfold spec_inRange.f
  by_cases h : lo ≤ a <;> simp [h]
theorem ev_spec_validVector_l0 (x0 : List Int) (hn : x0.length ≤ 2000000) : ∀ (d i : Nat), i + d = x0.length → Ev (fun k => spec_validVector.l0 k x0 (i : Int)) ((x0.drop i).all inV && decide (x0.length = 3)) := by
  intro d
  induction d with
  | zero =>
    intro i hi
    refine Ev.step (fun _ => rfl) (evElse (by omega) (evSome ?_))
    rw [List.drop_of_length_le (by omega)]
    rw [List.all_nil, Bool.true_and, Bool.eq_iff_iff, beq_iff_eq, decide_eq_true_iff]; omega
  | succ d ih =>
    intro i hi
    refine Ev.step (fun _ => rfl) (evIf (by omega) (evIf (by omega) (evPut (eq_spec_inRange _ _ _) ?_)))
    rw [wrapSucc i (by omega), rdAt _ _ (by omega), dropCons x0 i (by omega)]
    by_cases h : 0 ≤ x0[i] ∧ x0[i] ≤ 99
    · refine evIf (by simpa using h) (evEq (ih (i + 1) (by omega)) ?_)
      simp only [List.all_cons, inV, h, and_self, decide_true, Bool.true_and]
    · refine evElse (by simpa using h) (evSome ?_)
      simp only [List.all_cons, inV, h, decide_false, Bool.false_and]
theorem ev_spec_validVector (l : List Int) (hn : l.length ≤ 2000000) : Ev (fun k => spec_validVector.f k l) (vv l) :=
  ev_spec_validVector_l0 l hn l.length 0 (by omega)
theorem ev_spec_ValidVector (l : List Int) (hn : l.length ≤ 2000000) : Ev (fun k => spec_ValidVector.f k l) (vv l) := by
  unfold spec_ValidVector.f
  exact evBind (ev_spec_validVector l hn) (Ev.now _)
theorem ev_impl_ValidVector_l0 (x0 : List Int) (hn : x0.length ≤ 2000000) : ∀ (d i : Nat), i + d = x0.length → Ev (fun k => impl_ValidVector.l0 k x0 x0 (x0.length : Int) (i : Int)) ((x0.drop i).all inV && decide (x0.length = 3)) := by
  intro d
  induction d with
  | zero =>
    intro i hi
    refine Ev.step (fun _ => rfl) (evElse (by omega) (evSome ?_))
    rw [List.drop_of_length_le (by omega)]
    rw [List.all_nil, Bool.true_and, Bool.eq_iff_iff, beq_iff_eq, decide_eq_true_iff]; omega
  | succ d ih =>
    intro i hi
    refine Ev.step (fun _ => rfl) (evIf (by omega) (evIf (by omega) (evIf (by omega) ?_)))
    rw [wrapSucc i (by omega), rdAt _ _ (by omega), dropCons x0 i (by omega)]
    by_cases h : x0[i] < 0
    · refine evIf h (evSome ?_)
      have : inV x0[i] = false := by unfold inV; rw [decide_eq_false_iff_not]; omega
      simp only [List.all_cons, this, Bool.false_and, Bool.true_and]
    · refine evElse h ?_
      by_cases h' : x0[i] > 99
      · refine evIf h' (evSome ?_)
        have : inV x0[i] = false := by unfold inV; rw [decide_eq_false_iff_not]; omega
        simp only [List.all_cons, this, Bool.false_and, Bool.true_and]
      · refine evElse h' (evEq (ih (i + 1) (by omega)) ?_)
        have : inV x0[i] = true := by unfold inV; rw [decide_eq_true_iff]; omega
        simp only [List.all_cons, this, Bool.false_and, Bool.true_and]
theorem ev_impl_ValidVector (l : List Int) (hn : l.length ≤ 2000000) : Ev (fun k => impl_ValidVector.f k l) (vv l) :=
  ev_impl_ValidVector_l0 l hn l.length 0 (by omega)
/-- Every entry of a is at most that of b (of equal lengths). -/
def leL : List Int → List Int → Bool
  | a :: l, b :: m => decide (a ≤ b) && leL l m
  | _, _ => true
def vle (a b : List Int) : Bool := vv a && (vv b && leL a b)
def maxL (a b : List Int) : List Int := List.zipWith mx a b
def minL (a b : List Int) : List Int := List.zipWith mn a b
def mostL (l : List Int) (m : Int) : Int := l.foldl mx m
theorem mostL_cons (a : Int) (l : List Int) (m : Int) : mostL (a :: l) m = mostL l (mx m a) := rfl
def nextS (l : List Int) (who : Int) : Int × Int := if vv l = true ∧ 0 ≤ who ∧ who ≤ 2 then (if 99 ≤ mostL l 0 then (0, 0) else (mostL l 0 + 1, who)) else (0, 0)
theorem mx_range {a b : Int} (h : 0 ≤ a ∧ a ≤ 99) (k : 0 ≤ b ∧ b ≤ 99) : 0 ≤ mx a b ∧ mx a b ≤ 99 := by unfold mx; omega
theorem mostL_range : ∀ (l : List Int) (m : Int), l.all inV = true → 0 ≤ m ∧ m ≤ 99 → 0 ≤ mostL l m ∧ mostL l m ≤ 99
  | [], m, _, hm => hm
  | a :: l, m, h, hm => by
    simp only [List.all_cons, Bool.and_eq_true] at h
    have ha : 0 ≤ a ∧ a ≤ 99 := by simpa [inV] using h.1
    exact mostL_range l (mx m a) h.2 (mx_range hm ha)
theorem vv_all {l : List Int} (h : vv l = true) : l.all inV = true := by
  simp only [vv, Bool.and_eq_true] at h
  exact h.1
theorem inV_get {l : List Int} (h : l.all inV = true) (i : Nat) (hi : i < l.length) : 0 ≤ l[i] ∧ l[i] ≤ 99 := by
  have := (List.all_eq_true.1 h) l[i] (List.getElem_mem hi)
  simpa [inV] using this
theorem ev_impl_VectorLessEqual_l0 (x0 x1 : List Int) (hn : x0.length ≤ 2000000) (hl : x0.length = x1.length) : ∀ (d i : Nat), i + d = x0.length → Ev (fun k => impl_VectorLessEqual.l0 k x0 x1 (x0.length : Int) (i : Int)) (leL (x0.drop i) (x1.drop i)) := by
  intro d
  induction d with
  | zero =>
    intro i hi
    refine Ev.step (fun _ => rfl) (evElse (by omega) (evSome ?_))
    rw [List.drop_of_length_le (by omega)]; rfl
  | succ d ih =>
    intro i hi
    refine Ev.step (fun _ => rfl) (evIf (by omega) (evIf (by omega) (evIf (by omega) (evIf (by omega) ?_))))
    rw [wrapSucc i (by omega), rdAt _ _ (by omega), rdAt _ _ (by omega), dropCons x0 i (by omega), dropCons x1 i (by omega)]
    by_cases h : x0[i] > x1[i]
    · refine evIf h (evSome ?_)
      have : ¬ x0[i] ≤ x1[i] := by omega
      simp only [leL, this, decide_false, Bool.false_and]
    · refine evElse h (evEq (ih (i + 1) (by omega)) ?_)
      have : x0[i] ≤ x1[i] := by omega
      simp only [leL, this, decide_true, Bool.true_and]
theorem ev_impl_VectorLessEqual (a b : List Int) (ha : a.length ≤ 2000000) (hb : b.length ≤ 2000000) : Ev (fun k => impl_VectorLessEqual.f k a b) (vle a b) := by
  unfold impl_VectorLessEqual.f vle
  refine evBind (ev_impl_ValidVector a ha) ?_
  cases hva : vv a with
  | false => exact evElse (by simp) (evSucc (by simp only [impl_VectorLessEqual.j0, if_true]; exact Ev.now _))
  | true =>
    refine evIf (by rfl) (evBind (ev_impl_ValidVector b hb) ?_)
    cases hvb : vv b with
    | false => exact evSucc (by simp only [impl_VectorLessEqual.j0, Bool.not_false, if_true]; exact Ev.now _)
    | true =>
      refine evSucc ?_
      simp only [impl_VectorLessEqual.j0, Bool.not_true, Bool.false_eq_true, if_false]
      exact evEq (ev_impl_VectorLessEqual_l0 a b ha (by rw [vv_length hva, vv_length hvb]) a.length 0 (by omega)) (by simp)
theorem eq_impl_isAuthor (a : Int) : impl_isAuthor.f a = some (decide (0 ≤ a ∧ a ≤ 2)) := by
  unfold impl_isAuthor.f
  by_cases h : 0 ≤ a
  · rw [if_pos h]
    by_cases h' : a ≤ 2
    · rw [decide_eq_true (show a < 3 by omega), decide_eq_true (⟨h, h'⟩ : 0 ≤ a ∧ a ≤ 2)]
    · rw [decide_eq_false (show ¬ a < 3 by omega), decide_eq_false (fun hh => h' hh.2)]
  · rw [if_neg h, decide_eq_false (fun hh => h hh.1)]
theorem ev_spec_vectorMax_l0 (x1 : List Int) (hn : x1.length ≤ 2000000) : ∀ (d i : Nat) (x5 : List Int), i + d = x5.length → x5.length = x1.length → Ev (fun k => spec_vectorMax.l0 k x1 x5 (i : Int)) (x5.take i ++ maxL (x5.drop i) (x1.drop i)) := by
  intro d
  induction d with
  | zero =>
    intro i x5 hi hl
    refine Ev.step (fun _ => rfl) (evElse (by omega) (evSome ?_))
    rw [List.drop_of_length_le (by omega), List.take_of_length_le (by omega)]; simp [maxL]
  | succ d ih =>
    intro i x5 hi hl
    refine Ev.step (fun _ => rfl) (evIf (by omega) (evIf (by omega) (evIf (by omega) ?_)))
    rw [wrapSucc i (by omega), rdAt _ _ (by omega), rdAt _ _ (by omega)]
    by_cases h : x1[i] > x5[i]
    · refine evIf h (evEq (ih (i + 1) _ (by simp; omega) (by simp; omega)) ?_)
      have e : mx x5[i] x1[i] = x1[i] := by unfold mx; omega
      rw [takeSucc _ i (by simp; omega), dropCons x5 i (by omega), dropCons x1 i (by omega)]
      simp only [Int.toNat_natCast, List.getElem_set_self, List.take_set_of_le (Nat.le_refl i), List.drop_set_of_lt (show i < i + 1 by omega), maxL, List.zipWith_cons_cons, e, List.append_assoc, List.singleton_append]
    · refine evElse h (evEq (ih (i + 1) _ (by omega) hl) ?_)
      have e : mx x5[i] x1[i] = x5[i] := by unfold mx; omega
      rw [takeSucc _ i (by omega), dropCons x5 i (by omega), dropCons x1 i (by omega)]
      simp only [maxL, List.zipWith_cons_cons, e, List.append_assoc, List.singleton_append]
theorem ev_spec_vectorMax (a b : List Int) (ha : a.length ≤ 2000000) (hl : a.length = b.length) : Ev (fun k => spec_vectorMax.f k a b) (maxL a b) := by
  unfold spec_vectorMax.f
  refine evPut rfl (evIf (by simp only [List.length_nil]; omega) ?_)
  exact evEq (ev_spec_vectorMax_l0 b (by omega) a.length 0 _ (by simp) (by simpa using hl)) (by simp)
theorem ev_spec_VectorMax (a b : List Int) (ha : a.length ≤ 2000000) (hb : b.length ≤ 2000000) : Ev (fun k => spec_VectorMax.f k a b) (if vv a = true ∧ vv b = true then maxL a b else []) := by
  unfold spec_VectorMax.f
  refine evBind (ev_spec_validVector a ha) ?_
  cases hva : vv a with
  | false => exact evElse (by simp) (evSome (by simp))
  | true =>
    refine evIf (by rfl) (evBind (ev_spec_validVector b hb) ?_)
    cases hvb : vv b with
    | false => exact evElse (by simp) (evSome (by simp))
    | true => exact evIf (by rfl) (evBind (ev_spec_vectorMax a b ha (by rw [vv_length hva, vv_length hvb])) (evSome (by simp)))
theorem ev_impl_VectorMax_l0 (x0 x1 : List Int) (hn : x1.length ≤ 2000000) (h01 : x0.length = x1.length) : ∀ (d i : Nat) (x5 : List Int), i + d = x1.length → x5.length = x1.length → Ev (fun k => impl_VectorMax.l0 k x0 x1 x5 (x1.length : Int) (i : Int)) (x5.take i ++ maxL (x0.drop i) (x1.drop i)) := by
  intro d
  induction d with
  | zero =>
    intro i x5 hi hl
    refine Ev.step (fun _ => rfl) (evElse (by omega) (evSome ?_))
    rw [List.drop_of_length_le (by omega), List.take_of_length_le (by omega)]; simp [maxL]
  | succ d ih =>
    intro i x5 hi hl
    refine Ev.step (fun _ => rfl) (evIf (by omega) (evIf (by omega) (evIf (by omega) (evIf (by omega) (evIf (by omega) ?_)))))
    rw [wrapSucc i (by omega), rdAt _ _ (by omega), rdAt _ _ (by omega)]
    refine evEq (ih (i + 1) _ (by omega) (by simp; omega)) ?_
    rw [takeSucc _ i (by simp; omega), dropCons x0 i (by omega), dropCons x1 i (by omega)]
    simp only [Int.toNat_natCast, List.getElem_set_self, List.take_set_of_le (Nat.le_refl i), maxL, List.zipWith_cons_cons, List.append_assoc, List.singleton_append]
theorem ev_impl_VectorMax (a b : List Int) (ha : a.length ≤ 2000000) (hb : b.length ≤ 2000000) : Ev (fun k => impl_VectorMax.f k a b) (if vv a = true ∧ vv b = true then maxL a b else []) := by
  unfold impl_VectorMax.f
  refine evBind (ev_impl_ValidVector a ha) ?_
  cases hva : vv a with
  | false => exact evElse (by simp) (evSucc (by simp only [impl_VectorMax.j0, if_true]; exact evSome (by simp)))
  | true =>
    refine evIf (by rfl) (evBind (ev_impl_ValidVector b hb) ?_)
    cases hvb : vv b with
    | false => exact evSucc (by simp only [impl_VectorMax.j0, Bool.not_false, if_true]; exact evSome (by simp))
    | true =>
      refine evSucc ?_
      simp only [impl_VectorMax.j0, Bool.not_true, Bool.false_eq_true, if_false]
      refine evIf (by omega) (evPut rfl ?_)
      have h3 := vv_length hvb
      have := ev_impl_VectorMax_l0 a b hb (by rw [vv_length hva, h3]) b.length 0 (List.replicate 3 0) (by omega) (by simp [h3])
      rw [h3] at this
      exact evEq this (by simp)
theorem xorOk (a b : Int) (ha : 0 ≤ a ∧ a < 4611686018427387904) (hb : 0 ≤ b ∧ b < 4611686018427387904) : 0 ≤ Go.bits .xor .i64 a b := by
  obtain ⟨x, rfl⟩ := Int.eq_ofNat_of_zero_le ha.1
  obtain ⟨y, rfl⟩ := Int.eq_ofNat_of_zero_le hb.1
  have hx : x < 2 ^ 62 := by omega
  have hy : y < 2 ^ 62 := by omega
  have hz := Nat.xor_lt_two_pow hx hy
  have e : Go.bits .xor .i64 (x : Int) (y : Int) = ((x ^^^ y : Nat) : Int) := by
    simp only [Go.bits, BitVec.ofInt_natCast, BitVec.toNat_xor, BitVec.toNat_ofNat]
    rw [Nat.mod_eq_of_lt (show x < 2 ^ IntKind.i64.bits from Nat.lt_of_lt_of_le hx (by decide)), Nat.mod_eq_of_lt (show y < 2 ^ IntKind.i64.bits from Nat.lt_of_lt_of_le hy (by decide)), IntKind.wrap_i64]
    omega
  rw [e]; omega
/-- What a reader may hold: at most 2000 bytes. -/
structure BOk (b : List Int) : Prop where
  len : b.length ≤ 2000
  byte : ∀ x ∈ b, 0 ≤ x ∧ x ≤ 255
theorem BOk.rd {b : List Int} (h : BOk b) {i : Int} (h0 : 0 ≤ i) (h1 : i < b.length) : 0 ≤ Go.Proofs.YtpjbkdhehdpapaaW.PrintWords.rd b i ∧ Go.Proofs.YtpjbkdhehdpapaaW.PrintWords.rd b i ≤ 255 := by
  obtain ⟨n, rfl⟩ := Int.eq_ofNat_of_zero_le h0
  rw [rdAt _ _ (by omega)]
  exact h.byte _ (List.getElem_mem _)
theorem wf_u8 {l : List Int} (h : ∀ x ∈ l, (Lit.int .u8 x).wf = true) : ∀ x ∈ l, 0 ≤ x ∧ x ≤ 255 := fun x hx => by
  have := h x hx
  simp [Lit.wf, IntKind.min, IntKind.max, IntKind.bits, IntKind.signed] at this
  omega
/-- A call that draws: it comes to its answer v and moves the place on from p by at most m. -/
def Draws {α : Type} (g : Nat → Option (α × Int)) (p m : Int) (P : α → Prop) : Prop := ∃ v q, Ev g (v, q) ∧ p ≤ q ∧ q ≤ p + m ∧ P v
theorem ok_spec_newReader (l : List Int) (h : ∀ x ∈ l, (Lit.int .u8 x).wf = true) : ∃ b, spec_newReader.f l = some (b, 0) ∧ BOk b := by
  unfold spec_newReader.f
  by_cases hn : (l.length : Int) > 2000
  · rw [if_pos hn, if_pos (by omega)]
    exact ⟨_, rfl, ⟨by simp; omega, fun x hx => wf_u8 h x (List.mem_of_mem_take hx)⟩⟩
  · rw [if_neg hn]
    exact ⟨_, rfl, ⟨by omega, wf_u8 h⟩⟩
theorem ok_spec_reader_pick {b : List Int} (hb : BOk b) (p n : Int) (h0 : 0 ≤ p) (h1 : p ≤ 1000000000000) : ∃ v, Ev (fun k => spec_reader_pick.f k b p n) (v, p + 1) ∧ 0 ≤ v ∧ (1 ≤ n → v < n) ∧ (n < 1 → v = 0) := by
  have e1 : wrap64 (p + 1) = p + 1 := wrapId (by omega) (by omega)
  have e2 : wrap64 (p + 1 - 1) = p := by rw [wrapId (by omega) (by omega)]; omega
  unfold spec_reader_pick.f
  rw [e1]
  by_cases hn : n < 1
  · exact ⟨0, evIf hn (evSucc (by simp only [spec_reader_pick.j0, if_true]; exact Ev.now _)), by omega, fun h => by omega, fun _ => rfl⟩
  by_cases hz : b.length = 0
  · refine ⟨0, evElse hn (evSucc (by simp only [spec_reader_pick.j0, hz]; exact Ev.now _)), by omega, fun h => by omega, fun _ => rfl⟩
  have hn' : (0 : Int) < n := by omega
  by_cases hlt : p < (b.length : Int)
  · obtain ⟨r0, r1⟩ := hb.rd h0 hlt
    refine ⟨Int.tmod (Go.Proofs.YtpjbkdhehdpapaaW.PrintWords.rd b p) n, evElse hn (Ev.step (fun _ => rfl) (evElse (by simp; intro h; simp [h] at hz) ?_)), Int.tmod_nonneg _ r0, fun _ => Int.tmod_lt_of_pos _ hn', fun h => absurd h hn⟩
    rw [e2]
    refine evIf hlt (evIf h0 (evElse (by omega) (evSome ?_)))
    rw [wrapId (by omega) (by omega)]
  · have hL : (0 : Int) < b.length := by omega
    have k0 : 0 ≤ Int.tmod p b.length := Int.tmod_nonneg _ h0
    have k1 : Int.tmod p b.length < b.length := Int.tmod_lt_of_pos _ hL
    have e3 : wrap64 (p * 7) = p * 7 := wrapId (by omega) (by omega)
    have e4 : wrap64 (p * 7 + 3) = p * 7 + 3 := wrapId (by omega) (by omega)
    have j0 : 0 ≤ Int.tmod (p * 7 + 3) b.length := Int.tmod_nonneg _ (by omega)
    have j1 : Int.tmod (p * 7 + 3) b.length < b.length := Int.tmod_lt_of_pos _ hL
    obtain ⟨r0, r1⟩ := hb.rd k0 k1
    obtain ⟨s0, s1⟩ := hb.rd j0 j1
    have d0 : 0 ≤ Int.tdiv p b.length := Int.tdiv_nonneg h0 (by omega)
    have d1 : Int.tdiv p b.length ≤ p := by
      rw [Int.tdiv_eq_ediv_of_nonneg h0]; exact Int.ediv_le_self _ h0
    generalize hR : Go.Proofs.YtpjbkdhehdpapaaW.PrintWords.rd b (Int.tmod p b.length) = R at r0 r1
    generalize hS : Go.Proofs.YtpjbkdhehdpapaaW.PrintWords.rd b (Int.tmod (p * 7 + 3) b.length) = S at s0 s1
    generalize hD : Int.tdiv p b.length = D at d0 d1
    have f1 : wrap64 (wrap64 (wrap64 (wrap64 (wrap64 R * 131) + wrap64 (wrap64 S * 1117)) + wrap64 (p * 29)) + wrap64 (wrap64 D * 53)) = R * 131 + S * 1117 + p * 29 + D * 53 := by
      rw [wrapId (x := R) (by omega) (by omega), wrapId (x := S) (by omega) (by omega), wrapId (x := D) (by omega) (by omega), wrapId (x := R * 131) (by omega) (by omega), wrapId (x := S * 1117) (by omega) (by omega), wrapId (x := D * 53) (by omega) (by omega), wrapId (x := p * 29) (by omega) (by omega), wrapId (x := R * 131 + S * 1117) (by omega) (by omega), wrapId (x := R * 131 + S * 1117 + p * 29) (by omega) (by omega), wrapId (by omega) (by omega)]
    have t0 : 0 ≤ Int.tdiv (R * 131 + S * 1117 + p * 29 + D * 53) 64 := Int.tdiv_nonneg (by omega) (by omega)
    have t1 : Int.tdiv (R * 131 + S * 1117 + p * 29 + D * 53) 64 ≤ R * 131 + S * 1117 + p * 29 + D * 53 := by
      rw [Int.tdiv_eq_ediv_of_nonneg (by omega)]; exact Int.ediv_le_self _ (by omega)
    have hx := xorOk (R * 131 + S * 1117 + p * 29 + D * 53) (Int.tdiv (R * 131 + S * 1117 + p * 29 + D * 53) 64) (by omega) (by omega)
    refine ⟨Int.tmod (Go.bits .xor .i64 (R * 131 + S * 1117 + p * 29 + D * 53) (Int.tdiv (R * 131 + S * 1117 + p * 29 + D * 53) 64)) n, evElse hn (Ev.step (fun _ => rfl) (evElse (by simp; intro h; simp [h] at hz) ?_)), Int.tmod_nonneg _ hx, fun _ => Int.tmod_lt_of_pos _ hn', fun h => absurd h hn⟩
    rw [e2]
    refine evElse hlt (evElse (by omega) (evIf k0 (evIf k1 ?_)))
    rw [e3, e4]
    refine evIf j0 (evIf j1 (evElse (by omega) (evSome ?_)))
    rw [hR, hS, hD, f1, wrapId (x := Int.tdiv _ 64) (by omega) (by omega)]
def schB (a b : Int) : Bool := decide ((a = 0 ∧ (b = 1 ∨ b = 2 ∨ b = 3)) ∨ (a = 3 ∧ b = 4) ∨ (a = 4 ∧ (b = 1 ∨ b = 3)))
def vst (q a : Int) : Bool := decide ((1 ≤ q ∧ q ≤ 99) ∧ 0 ≤ a ∧ a ≤ 2)
def slt (q a q' a' : Int) : Bool := decide (q < q' ∨ (q = q' ∧ a < a'))
theorem eq_impl_ValidStamp (a b : Int) : impl_ValidStamp.f a b = some (vst a b) := by
  unfold impl_ValidStamp.f vst
  simp only [eq_impl_isAuthor, Option.bind_some]
  by_cases h : 1 ≤ a
  · by_cases h' : a ≤ 99
    · simp only [ge_iff_le, h, h', if_true, and_self, true_and]
    · simp only [ge_iff_le, h, h', if_true, if_false, and_false, false_and, decide_false]
  · simp only [ge_iff_le, h, if_false, false_and, decide_false]
/-- The vector covers the stamp. -/
def vco (l : List Int) (q a : Int) : Bool := vv l && (vst q a && decide (q ≤ rd l a))
theorem ev_impl_VectorContains (l : List Int) (q a : Int) (hn : l.length ≤ 2000000) : Ev (fun k => impl_VectorContains.f k l q a) (vco l q a) := by
  unfold impl_VectorContains.f vco
  refine evBind (ev_impl_ValidVector l hn) ?_
  cases hv : vv l with
  | false => exact evElse (by simp) (Ev.now _)
  | true =>
    refine evIf (by rfl) (evPut (eq_impl_ValidStamp _ _) ?_)
    cases hs : vst q a with
    | false => exact evElse (by simp) (evSome (by simp))
    | true =>
      have h3 := vv_length hv
      simp only [vst, decide_eq_true_eq] at hs
      exact evIf (by rfl) (evIf hs.2.1 (evIf (by omega) (evSome (by simp))))
theorem ev_spec_vectorMin_l0 (x1 : List Int) (hn : x1.length ≤ 2000000) : ∀ (d i : Nat) (x5 : List Int), i + d = x5.length → x5.length = x1.length → Ev (fun k => spec_vectorMin.l0 k x1 x5 (i : Int)) (x5.take i ++ minL (x5.drop i) (x1.drop i)) := by
  intro d
  induction d with
  | zero =>
    intro i x5 hi hl
    refine Ev.step (fun _ => rfl) (evElse (by omega) (evSome ?_))
    rw [List.drop_of_length_le (by omega), List.take_of_length_le (by omega)]; simp [minL]
  | succ d ih =>
    intro i x5 hi hl
    refine Ev.step (fun _ => rfl) (evIf (by omega) (evIf (by omega) (evIf (by omega) ?_)))
    rw [wrapSucc i (by omega), rdAt _ _ (by omega), rdAt _ _ (by omega)]
    by_cases h : x1[i] < x5[i]
    · refine evIf h (evEq (ih (i + 1) _ (by simp; omega) (by simp; omega)) ?_)
      have e : mn x5[i] x1[i] = x1[i] := by unfold mn; omega
      rw [takeSucc _ i (by simp; omega), dropCons x5 i (by omega), dropCons x1 i (by omega)]
      simp only [Int.toNat_natCast, List.getElem_set_self, List.take_set_of_le (Nat.le_refl i), List.drop_set_of_lt (show i < i + 1 by omega), minL, List.zipWith_cons_cons, e, List.append_assoc, List.singleton_append]
    · refine evElse h (evEq (ih (i + 1) _ (by omega) hl) ?_)
      have e : mn x5[i] x1[i] = x5[i] := by unfold mn; omega
      rw [takeSucc _ i (by omega), dropCons x5 i (by omega), dropCons x1 i (by omega)]
      simp only [minL, List.zipWith_cons_cons, e, List.append_assoc, List.singleton_append]
theorem ev_spec_vectorMin (a b : List Int) (ha : a.length ≤ 2000000) (hl : a.length = b.length) : Ev (fun k => spec_vectorMin.f k a b) (minL a b) := by
  unfold spec_vectorMin.f
  refine evPut rfl (evIf (by simp only [List.length_nil]; omega) ?_)
  exact evEq (ev_spec_vectorMin_l0 b (by omega) a.length 0 _ (by simp) (by simpa using hl)) (by simp)
theorem ev_spec_VectorMin (a b : List Int) (ha : a.length ≤ 2000000) (hb : b.length ≤ 2000000) : Ev (fun k => spec_VectorMin.f k a b) (if vv a = true ∧ vv b = true then minL a b else []) := by
  unfold spec_VectorMin.f
  refine evBind (ev_spec_validVector a ha) ?_
  cases hva : vv a with
  | false => exact evElse (by simp) (evSome (by simp))
  | true =>
    refine evIf (by rfl) (evBind (ev_spec_validVector b hb) ?_)
    cases hvb : vv b with
    | false => exact evElse (by simp) (evSome (by simp))
    | true => exact evIf (by rfl) (evBind (ev_spec_vectorMin a b ha (by rw [vv_length hva, vv_length hvb])) (evSome (by simp)))
theorem ev_impl_VectorMin_l0 (x0 x1 : List Int) (hn : x1.length ≤ 2000000) (h01 : x0.length = x1.length) : ∀ (d i : Nat) (x5 : List Int), i + d = x1.length → x5.length = x1.length → Ev (fun k => impl_VectorMin.l0 k x0 x1 x5 (x1.length : Int) (i : Int)) (x5.take i ++ minL (x0.drop i) (x1.drop i)) := by
  intro d
  induction d with
  | zero =>
    intro i x5 hi hl
    refine Ev.step (fun _ => rfl) (evElse (by omega) (evSome ?_))
    rw [List.drop_of_length_le (by omega), List.take_of_length_le (by omega)]; simp [minL]
  | succ d ih =>
    intro i x5 hi hl
    refine Ev.step (fun _ => rfl) (evIf (by omega) (evIf (by omega) (evIf (by omega) (evIf (by omega) (evIf (by omega) ?_)))))
    rw [wrapSucc i (by omega), rdAt _ _ (by omega), rdAt _ _ (by omega)]
    refine evEq (ih (i + 1) _ (by omega) (by simp; omega)) ?_
    rw [takeSucc _ i (by simp; omega), dropCons x0 i (by omega), dropCons x1 i (by omega)]
    simp only [Int.toNat_natCast, List.getElem_set_self, List.take_set_of_le (Nat.le_refl i), minL, List.zipWith_cons_cons, List.append_assoc, List.singleton_append]
theorem ev_impl_VectorMin (a b : List Int) (ha : a.length ≤ 2000000) (hb : b.length ≤ 2000000) : Ev (fun k => impl_VectorMin.f k a b) (if vv a = true ∧ vv b = true then minL a b else []) := by
  unfold impl_VectorMin.f
  refine evBind (ev_impl_ValidVector a ha) ?_
  cases hva : vv a with
  | false => exact evElse (by simp) (evSucc (by simp only [impl_VectorMin.j0, if_true]; exact evSome (by simp)))
  | true =>
    refine evIf (by rfl) (evBind (ev_impl_ValidVector b hb) ?_)
    cases hvb : vv b with
    | false => exact evSucc (by simp only [impl_VectorMin.j0, Bool.not_false, if_true]; exact evSome (by simp))
    | true =>
      refine evSucc ?_
      simp only [impl_VectorMin.j0, Bool.not_true, Bool.false_eq_true, if_false]
      refine evIf (by omega) (evPut rfl ?_)
      have h3 := vv_length hvb
      have := ev_impl_VectorMin_l0 a b hb (by rw [vv_length hva, h3]) b.length 0 (List.replicate 3 0) (by omega) (by simp [h3])
      rw [h3] at this
      exact evEq this (by simp)
theorem ev_laws_equalInts_l0 (x0 x1 : List Int) (hn : x0.length ≤ 2000000) (hl : x0.length = x1.length) : ∀ (d i : Nat), i + d = x0.length → Ev (fun k => laws_equalInts.l0 k x0 x1 (i : Int)) (decide (x0.drop i = x1.drop i)) := by
  intro d
  induction d with
  | zero =>
    intro i hi
    refine Ev.step (fun _ => rfl) (evElse (by omega) (evSome ?_))
    rw [List.drop_of_length_le (by omega), List.drop_of_length_le (by omega)]; simp
  | succ d ih =>
    intro i hi
    refine Ev.step (fun _ => rfl) (evIf (by omega) (evIf (by omega) (evIf (by omega) ?_)))
    rw [wrapSucc i (by omega), rdAt _ _ (by omega), rdAt _ _ (by omega), dropCons x0 i (by omega), dropCons x1 i (by omega)]
    by_cases h : x0[i] = x1[i]
    · refine evIf h (evEq (ih (i + 1) (by omega)) ?_)
      simp only [h, List.cons.injEq, true_and]
    · refine evElse h (evSome ?_)
      simp only [h, List.cons.injEq, false_and, decide_false]
theorem ev_laws_equalInts (a b : List Int) (hn : a.length ≤ 2000000) : Ev (fun k => laws_equalInts.f k a b) (decide (a = b)) := by
  unfold laws_equalInts.f
  by_cases h : a.length = b.length
  · exact evIf (by omega) (evEq (ev_laws_equalInts_l0 a b hn h a.length 0 (by omega)) (by simp))
  · refine evElse (by omega) (evSome ?_)
    rw [eq_comm, decide_eq_false_iff_not]
    intro e; exact h (by rw [e])
theorem ok_spec_reader_one {b : List Int} (hb : BOk b) (p : Int) (h0 : 0 ≤ p) (h1 : p ≤ 1000000000000) (l : List Int) (hl : 0 < l.length) : ∃ v, v ∈ l ∧ Ev (fun k => spec_reader_one.f k b p l) (v, p + 1) := by
  obtain ⟨v, hv, v0, v1, _⟩ := ok_spec_reader_pick hb p (l.length : Int) h0 h1
  have hlt : v < (l.length : Int) := v1 (by omega)
  refine ⟨Go.Proofs.YtpjbkdhehdpapaaW.PrintWords.rd l v, ?_, ?_⟩
  · obtain ⟨n, rfl⟩ := Int.eq_ofNat_of_zero_le v0
    rw [rdAt _ _ (by omega)]
    exact List.getElem_mem _
  · unfold spec_reader_one.f
    exact evBind hv (evIf v0 (evIf hlt (Ev.now _)))
theorem ok_spec_randomStamp {b : List Int} (hb : BOk b) (p : Int) (h0 : 0 ≤ p) (h1 : p ≤ 200000000000) : ∃ x y, Ev (fun k => spec_randomStamp.f k b p) (x, y, p + 2) ∧ x ∈ ([1, 2, 3, 5, 9, 99] : List Int) ∧ 0 ≤ y ∧ y ≤ 2 := by
  obtain ⟨x, hx, ex⟩ := ok_spec_reader_one hb p h0 (by omega) [1, 2, 3, 5, 9, 99] (by decide)
  obtain ⟨y, ey, y0, y1, _⟩ := ok_spec_reader_pick hb (p + 1) 3 (by omega) (by omega)
  refine ⟨x, y, ?_, hx, y0, by have := y1 (by omega); omega⟩
  unfold spec_randomStamp.f
  exact evBind ex (evBind ey (evSome (by simp; omega)))
theorem ok_spec_anyStamp {b : List Int} (hb : BOk b) (p : Int) (h0 : 0 ≤ p) (h1 : p ≤ 100000000000) : ∃ x y q, Ev (fun k => spec_anyStamp.f k b p) (x, y, q) ∧ p ≤ q ∧ q ≤ p + 3 := by
  obtain ⟨v, ev, _⟩ := ok_spec_reader_pick hb p 8 h0 (by omega)
  unfold spec_anyStamp.f
  by_cases c0 : v = 0
  · exact ⟨0, 0, p + 1, evBind ev (evIf c0 (Ev.now _)), by omega, by omega⟩
  by_cases c1 : v = 1
  · obtain ⟨x, hx, ex⟩ := ok_spec_reader_one hb (p + 1) (by omega) (by omega) [0, 100, -1] (by decide)
    obtain ⟨y, ey, _⟩ := ok_spec_reader_pick hb (p + 1 + 1) 3 (by omega) (by omega)
    exact ⟨x, y, p + 1 + 1 + 1, evBind ev (evElse c0 (evIf c1 (evBind ex (evBind ey (Ev.now _))))), by omega, by omega⟩
  by_cases c2 : v = 2
  · obtain ⟨x, hx, ex⟩ := ok_spec_reader_one hb (p + 1) (by omega) (by omega) [3, -1] (by decide)
    exact ⟨4, x, p + 1 + 1, evBind ev (evElse c0 (evElse c1 (evIf c2 (evBind ex (Ev.now _))))), by omega, by omega⟩
  · obtain ⟨x, y, e, _⟩ := ok_spec_randomStamp hb (p + 1) (by omega) (by omega)
    exact ⟨x, y, p + 1 + 2, evBind ev (evElse c0 (evElse c1 (evElse c2 (evBind e (Ev.now _))))), by omega, by omega⟩
theorem ok_spec_anyVector_l0 {b : List Int} (hb : BOk b) : ∀ (d i : Nat) (x3 : List Int) (p : Int), i + d = 3 → x3.length = i → 0 ≤ p → p + d ≤ 200000000000 → ∃ v q, Ev (fun k => spec_anyVector.l0 k x3 (i : Int) b p) (v, q) ∧ p ≤ q ∧ q ≤ p + d + 3 ∧ v.length ≤ 3 := by
  intro d
  induction d with
  | zero =>
    intro i x3 p hi hl h0 h1
    obtain ⟨v, ev, _⟩ := ok_spec_reader_pick hb p 16 h0 (by omega)
    by_cases c0 : v = 0
    · obtain ⟨j, ej, j0, j1, _⟩ := ok_spec_reader_pick hb (p + 1) 3 (by omega) (by omega)
      obtain ⟨x, _, ex⟩ := ok_spec_reader_one hb (p + 1 + 1) (by omega) (by omega) [-1, 100] (by decide)
      have := j1 (by omega)
      exact ⟨x3.set j.toNat x, p + 1 + 1 + 1, Ev.step (fun _ => rfl) (evElse (by omega) (evBind ev (evIf c0 (evBind ej (evBind ex (evIf j0 (evIf (by omega) (Ev.now _)))))))), by omega, by omega, by simp; omega⟩
    by_cases c1 : v = 1
    · exact ⟨x3.drop 1, p + 1, Ev.step (fun _ => rfl) (evElse (by omega) (evBind ev (evElse c0 (evIf c1 (evIf (by omega) (Ev.now _)))))), by omega, by omega, by simp; omega⟩
    · exact ⟨x3, p + 1, Ev.step (fun _ => rfl) (evElse (by omega) (evBind ev (evElse c0 (evElse c1 (Ev.now _))))), by omega, by omega, by omega⟩
  | succ d ih =>
    intro i x3 p hi hl h0 h1
    obtain ⟨x, _, ex⟩ := ok_spec_reader_one hb p h0 (by omega) [0, 1, 3, 6, 9, 14, 99] (by decide)
    obtain ⟨v, q, e, q0, q1, hv⟩ := ih (i + 1) (x3 ++ [x]) (p + 1) (by omega) (by simp; omega) (by omega) (by omega)
    refine ⟨v, q, Ev.step (fun _ => rfl) (evIf (by omega) (evBind ex (evIf (by omega) ?_))), by omega, by omega, hv⟩
    rw [wrapSucc i (by omega)]
    exact e
theorem ok_spec_anyVector {b : List Int} (hb : BOk b) (p : Int) (h0 : 0 ≤ p) (h1 : p ≤ 100000000000) : ∃ v q, Ev (fun k => spec_anyVector.f k b p) (v, q) ∧ p ≤ q ∧ q ≤ p + 6 ∧ v.length ≤ 3 := by
  obtain ⟨v, q, e, h⟩ := ok_spec_anyVector_l0 hb 3 0 [] p (by omega) rfl h0 (by omega)
  exact ⟨v, q, e, by omega, by omega, h.2.2⟩
theorem ok_spec_DrawVectorContains (l : List Int) (h : ∀ x ∈ l, (Lit.int .u8 x).wf = true) : ∃ v x y, Ev (fun k => spec_DrawVectorContains.f k l) (v, x, y) ∧ v.length ≤ 3 := by
  obtain ⟨b, e, hb⟩ := ok_spec_newReader l h
  obtain ⟨v, q, ev, q0, q1, hv⟩ := ok_spec_anyVector hb 0 (by omega) (by omega)
  obtain ⟨x, y, q', ex, _⟩ := ok_spec_anyStamp hb q (by omega) (by omega)
  refine ⟨v, x, y, ?_, hv⟩
  unfold spec_DrawVectorContains.f
  exact evPut e (evBind ev (evBind ex (Ev.now _)))
theorem ok_spec_DrawVectorMax (l : List Int) (h : ∀ x ∈ l, (Lit.int .u8 x).wf = true) : ∃ v u, Ev (fun k => spec_DrawVectorMax.f k l) (v, u) ∧ v.length ≤ 3 ∧ u.length ≤ 3 := by
  obtain ⟨b, e, hb⟩ := ok_spec_newReader l h
  obtain ⟨v, q, ev, q0, q1, hv⟩ := ok_spec_anyVector hb 0 (by omega) (by omega)
  obtain ⟨u, q', eu, _, _, hu⟩ := ok_spec_anyVector hb q (by omega) (by omega)
  refine ⟨v, u, ?_, hv, hu⟩
  unfold spec_DrawVectorMax.f
  exact evPut e (evBind ev (evBind eu (Ev.now _)))
theorem mostL_self (l : List Int) : ∀ m, m ≤ mostL l m := by
  induction l with
  | nil => intro m; exact Int.le_refl _
  | cons a l ih =>
    intro m
    rw [mostL_cons]
    have := ih (mx m a)
    have : m ≤ mx m a := by unfold mx; omega
    omega
theorem mostL_mem (l : List Int) : ∀ m (i : Nat) (h : i < l.length), l[i] ≤ mostL l m := by
  induction l with
  | nil => intro m i h; simp at h
  | cons a l ih =>
    intro m i h
    rw [mostL_cons]
    cases i with
    | zero =>
      have := mostL_self l (mx m a)
      have : a ≤ mx m a := by unfold mx; omega
      simp; omega
    | succ i => simpa using ih (mx m a) i (by simpa using h)
theorem nextS_some {c : List Int} {who : Int} (h : ¬ ((nextS c who).1 = 0 ∧ (nextS c who).2 = 0)) : vv c = true ∧ 0 ≤ who ∧ who ≤ 2 ∧ nextS c who = (mostL c 0 + 1, who) ∧ 0 ≤ mostL c 0 ∧ mostL c 0 < 99 := by
  unfold nextS at h ⊢
  split at h
  · rename_i hc
    split at h
    · exact absurd ⟨rfl, rfl⟩ h
    · rename_i h9
      have := mostL_range c 0 (vv_all hc.1) (by omega)
      rw [if_pos hc, if_neg h9]
      exact ⟨hc.1, hc.2.1, hc.2.2, rfl, this.1, by omega⟩
  · exact absurd ⟨rfl, rfl⟩ h
theorem vco_le {c : List Int} {q a : Int} (h : vco c q a = true) : q ≤ mostL c 0 := by
  simp only [vco, Bool.and_eq_true, decide_eq_true_eq] at h
  obtain ⟨h1, h2, h3⟩ := h
  have hl := vv_length h1
  simp only [vst, decide_eq_true_eq] at h2
  obtain ⟨n, rfl⟩ := Int.eq_ofNat_of_zero_le h2.2.1
  rw [rdAt _ _ (by omega)] at h3
  have := mostL_mem c 0 n (by omega)
  omega
theorem rd3_0 (x y z : Int) : rd [x, y, z] 0 = x := rfl
theorem rd3_1 (x y z : Int) : rd [x, y, z] 1 = y := rfl
theorem rd3_2 (x y z : Int) : rd [x, y, z] 2 = z := rfl
theorem vv_mk {x y z : Int} (hx : 0 ≤ x ∧ x ≤ 99) (hy : 0 ≤ y ∧ y ≤ 99) (hz : 0 ≤ z ∧ z ≤ 99) : vv [x, y, z] = true := by simp [vv, inV, hx, hy, hz]
theorem mn_range {a b : Int} (h : 0 ≤ a ∧ a ≤ 99) (k : 0 ≤ b ∧ b ≤ 99) : 0 ≤ mn a b ∧ mn a b ≤ 99 := by unfold mn; omega
theorem vst_at {q a : Int} (h : vst q a = true) : a = 0 ∨ a = 1 ∨ a = 2 := by
  simp only [vst, decide_eq_true_eq] at h; omega
theorem vv_max {a b : List Int} (ha : vv a = true) (hb : vv b = true) : vv (maxL a b) = true := by
  obtain ⟨a1, a2, a3, rfl, h1, h2, h3⟩ := vv_form ha
  obtain ⟨b1, b2, b3, rfl, k1, k2, k3⟩ := vv_form hb
  exact vv_mk (mx_range h1 k1) (mx_range h2 k2) (mx_range h3 k3)
theorem vv_min {a b : List Int} (ha : vv a = true) (hb : vv b = true) : vv (minL a b) = true := by
  obtain ⟨a1, a2, a3, rfl, h1, h2, h3⟩ := vv_form ha
  obtain ⟨b1, b2, b3, rfl, k1, k2, k3⟩ := vv_form hb
  exact vv_mk (mn_range h1 k1) (mn_range h2 k2) (mn_range h3 k3)
theorem le_mx (q a b : Int) : decide (q ≤ mx a b) = (decide (q ≤ a) || decide (q ≤ b)) := by
  rw [Bool.eq_iff_iff]; simp only [Bool.or_eq_true, decide_eq_true_eq]; unfold mx; omega
theorem le_mn (q a b : Int) : decide (q ≤ mn a b) = (decide (q ≤ a) && decide (q ≤ b)) := by
  rw [Bool.eq_iff_iff]; simp only [Bool.and_eq_true, decide_eq_true_eq]; unfold mn; omega
theorem vco_max {a b : List Int} (ha : vv a = true) (hb : vv b = true) (q c : Int) : vco (maxL a b) q c = (vco a q c || vco b q c) := by
  cases hs : vst q c with
  | false => simp [vco, hs]
  | true =>
    simp only [vco, vv_max ha hb, ha, hb, hs, Bool.true_and]
    obtain ⟨a1, a2, a3, rfl, _⟩ := vv_form ha
    obtain ⟨b1, b2, b3, rfl, _⟩ := vv_form hb
    rcases vst_at hs with rfl | rfl | rfl <;> exact le_mx _ _ _
theorem vco_min {a b : List Int} (ha : vv a = true) (hb : vv b = true) (q c : Int) : vco (minL a b) q c = (vco a q c && vco b q c) := by
  cases hs : vst q c with
  | false => simp [vco, hs]
  | true =>
    simp only [vco, vv_min ha hb, ha, hb, hs, Bool.true_and]
    obtain ⟨a1, a2, a3, rfl, _⟩ := vv_form ha
    obtain ⟨b1, b2, b3, rfl, _⟩ := vv_form hb
    rcases vst_at hs with rfl | rfl | rfl <;> exact le_mn _ _ _
theorem mx_comm (a b : Int) : mx a b = mx b a := by unfold mx; omega
theorem mn_comm (a b : Int) : mn a b = mn b a := by unfold mn; omega
theorem maxL_comm (a : List Int) : ∀ b, maxL a b = maxL b a := by
  induction a with
  | nil => intro b; cases b <;> rfl
  | cons x a ih => intro b; cases b with
    | nil => rfl
    | cons y b => simp only [maxL, List.zipWith_cons_cons, mx_comm x y]; exact congrArg _ (ih b)
theorem minL_comm (a : List Int) : ∀ b, minL a b = minL b a := by
  induction a with
  | nil => intro b; cases b <;> rfl
  | cons x a ih => intro b; cases b with
    | nil => rfl
    | cons y b => simp only [minL, List.zipWith_cons_cons, mn_comm x y]; exact congrArg _ (ih b)
theorem leL_min_max (a : List Int) : ∀ b, leL (minL a b) (maxL a b) = true := by
  induction a with
  | nil => intro b; cases b <;> rfl
  | cons x a ih => intro b; cases b with
    | nil => rfl
    | cons y b =>
      simp only [minL, maxL, List.zipWith_cons_cons, leL, Bool.and_eq_true, decide_eq_true_eq]
      exact ⟨by unfold mn mx; omega, ih b⟩
theorem leL_iff (a : List Int) : ∀ b, a.length = b.length → leL a b = decide (maxL a b = b) := by
  induction a with
  | nil => intro b h; cases b with
    | nil => rfl
    | cons y b => simp at h
  | cons x a ih => intro b h; cases b with
    | nil => simp at h
    | cons y b =>
      have := ih b (by simpa using h)
      simp only [leL, maxL, List.zipWith_cons_cons, List.cons.injEq, this, Bool.decide_and]
      congr 1
      rw [Bool.eq_iff_iff]; simp only [decide_eq_true_eq]; unfold mx; omega
theorem leL_antisymm (a : List Int) : ∀ b, a.length = b.length → (leL a b && leL b a) = decide (a = b) := by
  induction a with
  | nil => intro b h; cases b with
    | nil => rfl
    | cons y b => simp at h
  | cons x a ih => intro b h; cases b with
    | nil => simp at h
    | cons y b =>
      have := ih b (by simpa using h)
      rw [Bool.eq_iff_iff] at this ⊢
      simp only [leL, List.cons.injEq, Bool.and_eq_true, decide_eq_true_eq] at this ⊢
      rw [← this]
      constructor
      · rintro ⟨⟨h1, h2⟩, h3, h4⟩; exact ⟨by omega, h2, h4⟩
      · rintro ⟨rfl, h2, h4⟩; exact ⟨⟨by omega, h2⟩, by omega, h4⟩
theorem vco_mono {a b : List Int} (ha : vv a = true) (hb : vv b = true) (h : leL a b = true) {q c : Int} (hc : vco a q c = true) : vco b q c = true := by
  rw [leL_iff a b (by rw [vv_length ha, vv_length hb]), decide_eq_true_eq] at h
  rw [← h, vco_max ha hb, hc]; rfl
theorem FnVectorLattice : laws_FnVectorLattice.Pure := by
  intro l m _ _ hl _ _ hm
  apply Ev.rounds
  unfold laws_FnVectorLattice.f
  have hbig : Ev (fun k => laws_FnVectorLattice.j0 k l m true) true := evSucc (by simp only [laws_FnVectorLattice.j0, if_true]; exact Ev.now _)
  by_cases h1 : (l.length : Int) > 1048576
  · exact evIf h1 hbig
  refine evElse h1 ?_
  by_cases h2 : (m.length : Int) > 1048576
  · rw [decide_eq_true h2]; exact hbig
  rw [decide_eq_false h2]
  obtain ⟨a, b, ec, ha, hb⟩ := ok_spec_DrawVectorMax l hl
  have na : a.length ≤ 2000000 := by omega
  have nb : b.length ≤ 2000000 := by omega
  have eM := ev_impl_VectorMax a b na nb
  have eM' := ev_spec_VectorMax a b na nb
  have eL := ev_impl_VectorMin a b na nb
  have eL' := ev_spec_VectorMin a b na nb
  refine evSucc ?_
  simp only [laws_FnVectorLattice.j0, Bool.false_eq_true, if_false]
  by_cases hv : vv a = true ∧ vv b = true
  · rw [if_pos hv] at eM eM' eL eL'
    have nM : (maxL a b).length ≤ 2000000 := by simp [maxL]; omega
    have nL : (minL a b).length ≤ 2000000 := by simp [minL]; omega
    have hM0 : (((maxL a b).length : Int) == 0) = false := by
      have := vv_length (vv_max hv.1 hv.2)
      rw [beq_eq_false_iff_ne]; omega
    refine evBind ec (evBind eM (evBind eL (evBind eM' (evBind (ev_laws_equalInts _ _ nM) (evIf (by simp) (evBind eL' (evBind (ev_laws_equalInts _ _ nL) (evIf (by simp) (evBind (ev_impl_ValidVector a na) (evBind (ev_spec_ValidVector a na) (evElse (by simp) ?_)))))))))))
    simp only [hM0]
    obtain ⟨_, x, y, ex, _⟩ := ok_spec_DrawVectorContains m hm
    have e3 : Ev (fun k => laws_FnVectorLattice.j3 k a b (maxL a b) (minL a b) (vco a x y || vco b x y) (vco a x y && vco b x y) x y) true := by
      refine evSucc ?_
      simp only [laws_FnVectorLattice.j3]
      have eM2 : Ev (fun k => impl_VectorMax.f k b a) (maxL a b) := evEq (ev_impl_VectorMax b a nb na) (by rw [if_pos ⟨hv.2, hv.1⟩, maxL_comm])
      have eL2 : Ev (fun k => impl_VectorMin.f k b a) (minL a b) := evEq (ev_impl_VectorMin b a nb na) (by rw [if_pos ⟨hv.2, hv.1⟩, minL_comm])
      exact evBind (evEq (ev_impl_VectorContains _ _ _ nM) (vco_max hv.1 hv.2 x y)) (evIf (by simp) (evBind (evEq (ev_impl_VectorContains _ _ _ nL) (vco_min hv.1 hv.2 x y)) (evIf (by simp) (evBind eM2 (evBind (ev_laws_equalInts _ _ nM) (evIf (by simp) (evBind eL2 (evBind (ev_laws_equalInts _ _ nL) (evIf (by simp) (evBind (ev_impl_VectorLessEqual _ _ nL nM) (evSome (by simp [vle, vv_max hv.1 hv.2, vv_min hv.1 hv.2, leL_min_max]))))))))))))
    have e2 : Ev (fun k => laws_FnVectorLattice.j2 k a b (maxL a b) (minL a b) (vco a x y || vco b x y) x y) true := by
      refine evSucc ?_
      simp only [laws_FnVectorLattice.j2]
      refine evBind (ev_impl_VectorContains a _ _ na) ?_
      cases hc : vco a x y with
      | false => rw [hc] at e3; exact evElse (by simp) e3
      | true => rw [hc] at e3; exact evIf (by rfl) (evBind (ev_impl_VectorContains b _ _ nb) (by simpa using e3))
    refine evSucc ?_
    simp only [laws_FnVectorLattice.j1, Bool.false_eq_true, if_false]
    refine evBind ex (evBind (ev_impl_VectorContains a _ _ na) ?_)
    cases hc : vco a x y with
    | false => rw [hc, Bool.false_or] at e2; exact evElse (by simp) (evBind (ev_impl_VectorContains b _ _ nb) e2)
    | true => rw [hc, Bool.true_or] at e2; exact evIf (by rfl) e2
  · rw [if_neg hv] at eM eM' eL eL'
    have e0 : Ev (fun k => laws_equalInts.f k [] []) true := evEq (ev_laws_equalInts [] [] (by simp)) (by simp)
    have e1 : Ev (fun k => laws_FnVectorLattice.j1 k m a b [] [] true) true := by
      refine evSucc ?_
      simp only [laws_FnVectorLattice.j1, if_true]
      exact evBind eM' (evBind e0 (evIf (by rfl) (evBind eL' (evBind e0 (evIf (by rfl) (evBind (ev_impl_ValidVector a na) (evBind (ev_spec_ValidVector a na) (evSome (by simp)))))))))
    exact evBind ec (evBind eM (evBind eL (evBind eM' (evBind e0 (evIf (by rfl) (evBind eL' (evBind e0 (evIf (by rfl) (evBind (ev_impl_ValidVector a na) (evBind (ev_spec_ValidVector a na) (evElse (by simp) e1)))))))))))

end Go.Proofs.Ytpjbkdhehdpapaa.Pure

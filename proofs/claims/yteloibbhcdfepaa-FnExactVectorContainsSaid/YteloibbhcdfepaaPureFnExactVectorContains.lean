/- The plain side of the statement FnExactVectorContains: the printed functions answer true at every input. Conditions: none beyond the given statement's own. -/
import Derived.Test.YteloibbhcdfepaaQAx3
import Derived.Test.YteloibbhcdfepaaBase
namespace Go.Proofs.Yteloibbhcdfepaa.Pure
open Go.RowKit Go.Proofs.Yteloibbhcdfepaa.QA Go.Proofs.YteloibbhcdfepaaW.PrintWords Go.Proofs.YteloibbhcdfepaaW.PrintLast Go.Proofs.Yteloibbhcdfepaa.Base
set_option linter.unusedVariables false
set_option linter.unusedSimpArgs false

def inV (x : Int) : Bool := decide (0 ≤ x ∧ x ≤ 99)
/-- A valid vector: three entries of 0 to 99. -/
def vv (l : List Int) : Bool := l.all inV && decide (l.length = 3)
theorem vv_length {l : List Int} (h : vv l = true) : l.length = 3 := by
  simp only [vv, Bool.and_eq_true, decide_eq_true_eq] at h
  exact h.2
theorem vv_form {l : List Int} (h : vv l = true) : ∃ a b c, l = [a, b, c] ∧ (0 ≤ a ∧ a ≤ 99) ∧ (0 ≤ b ∧ b ≤ 99) ∧ (0 ≤ c ∧ c ≤ 99) := by
  have hl := vv_length h
  match l, hl with
  | [a, b, c], _ =>
    simp [vv, inV] at h
    exact ⟨a, b, c, rfl, h⟩
def iota (a : Int) (n : Nat) : List Int := (List.range n).map fun i : Nat => a + (i : Int)
theorem iota_length (a : Int) (n : Nat) : (iota a n).length = n := by simp [iota]
theorem iota_succ (a : Int) (n : Nat) : iota a (n + 1) = a :: iota (a + 1) n := by
  simp only [iota, List.range_succ_eq_map, List.map_cons, List.map_map]
  congr 1
  · simp
  · apply List.map_congr_left; intro i _; simp only [Function.comp]; omega
theorem ev_laws_toIntS_l0 (x0 : List Int) (hn : x0.length ≤ 2000000) : ∀ (d i : Nat) (x3 : List Int), i + d = x0.length → x3.length = x0.length → x3.take i = x0.take i → Ev (fun k => laws_toIntS.l0 k x0 x3 (i : Int)) x0 := by
  intro d
  induction d with
  | zero =>
    intro i x3 hi hl ht
    refine Ev.step (fun _ => rfl) (evElse (by omega) (evSome ?_))
    rwa [List.take_of_length_le (by omega), List.take_of_length_le (by omega)] at ht
  | succ d ih =>
    intro i x3 hi hl ht
    refine Ev.step (fun _ => rfl) (evIf (by omega) (evIf (by omega) (evIf (by omega) ?_)))
    rw [wrapSucc i (by omega), rdAt _ _ (by omega)]
    refine ih (i + 1) _ (by omega) (by simp [hl]) ?_
    rw [takeSucc x0 i (by omega), takeSucc _ i (by simp; omega)]
    simp only [Int.toNat_natCast, List.getElem_set_self]
    rw [List.take_set_of_le (Nat.le_refl i), ht]
theorem ev_laws_toIntS (l : List Int) (hn : l.length ≤ 2000000) : Ev (fun k => laws_toIntS.f k l) l := by
  unfold laws_toIntS.f
  refine evIf (by omega) (evIf (by omega) ?_)
  exact ev_laws_toIntS_l0 l hn l.length 0 _ (by omega) (by simp) (by simp)
theorem ev_laws_eqIntS_l0 (x0 x1 : List Int) (hn : x0.length ≤ 2000000) (hl : x0.length = x1.length) : ∀ (d i : Nat), i + d = x0.length → Ev (fun k => laws_eqIntS.l0 k x0 x1 (i : Int)) (decide (x0.drop i = x1.drop i)) := by
  intro d
  induction d with
  | zero =>
    intro i hi
    refine Ev.step (fun _ => rfl) (evElse (by omega) (evSome ?_))
    rw [List.drop_of_length_le (by omega), List.drop_of_length_le (by omega)]; simp
  | succ d ih =>
    intro i hi
    refine Ev.step (fun _ => rfl) (evIf (by omega) (evIf (by omega) (evIf (by omega) ?_)))
    rw [wrapSucc i (by omega), rdAt _ _ (by omega), rdAt _ _ (by omega), dropCons x0 i (by omega), dropCons x1 i (by omega)]
    by_cases h : x0[i] = x1[i]
    · refine evIf h (evEq (ih (i + 1) (by omega)) ?_)
      simp only [h, List.cons.injEq, true_and]
    · refine evElse h (evSome ?_)
      simp only [h, List.cons.injEq, false_and, decide_false]
theorem ev_laws_eqIntS (a b : List Int) (hn : a.length ≤ 2000000) : Ev (fun k => laws_eqIntS.f k a b) (decide (a = b)) := by
  unfold laws_eqIntS.f
  by_cases h : a.length = b.length
  · exact evIf (by omega) (evEq (ev_laws_eqIntS_l0 a b hn h a.length 0 (by omega)) (by simp))
  · refine evElse (by omega) (evSome ?_)
    rw [eq_comm, decide_eq_false_iff_not]
    intro e; exact h (by rw [e])
theorem eq_spec_inRange (a lo hi : Int) : spec_inRange.f a lo hi = some (decide (lo ≤ a ∧ a ≤ hi)) := by
  unfold spec_inRange.f
  by_cases h : lo ≤ a <;> simp [h]
theorem ev_spec_validVector_l0 (x0 : List Int) (hn : x0.length ≤ 2000000) : ∀ (d i : Nat), i + d = x0.length → Ev (fun k => spec_validVector.l0 k x0 (i : Int)) ((x0.drop i).all inV && decide (x0.length = 3)) := by
  intro d
  induction d with
  | zero =>
    intro i hi
    refine Ev.step (fun _ => rfl) (evElse (by omega) (evSome ?_))
    rw [List.drop_of_length_le (by omega)]
    rw [List.all_nil, Bool.true_and, Bool.eq_iff_iff, beq_iff_eq, decide_eq_true_iff]; omega
  | succ d ih =>
    intro i hi
    refine Ev.step (fun _ => rfl) (evIf (by omega) (evIf (by omega) (evPut (eq_spec_inRange _ _ _) ?_)))
    rw [wrapSucc i (by omega), rdAt _ _ (by omega), dropCons x0 i (by omega)]
    by_cases h : 0 ≤ x0[i] ∧ x0[i] ≤ 99
    · refine evIf (by simpa using h) (evEq (ih (i + 1) (by omega)) ?_)
      simp only [List.all_cons, inV, h, and_self, decide_true, Bool.true_and]
    · refine evElse (by simpa using h) (evSome ?_)
      simp only [List.all_cons, inV, h, decide_false, Bool.false_and]
theorem ev_spec_validVector (l : List Int) (hn : l.length ≤ 2000000) : Ev (fun k => spec_validVector.f k l) (vv l) :=
  ev_spec_validVector_l0 l hn l.length 0 (by omega)
theorem ev_impl_ValidVector_l0 (x0 : List Int) (hn : x0.length ≤ 2000000) : ∀ (d i : Nat), i + d = x0.length → Ev (fun k => impl_ValidVector.l0 k x0 x0 (x0.length : Int) (i : Int)) ((x0.drop i).all inV && decide (x0.length = 3)) := by
  intro d
  induction d with
  | zero =>
    intro i hi
    refine Ev.step (fun _ => rfl) (evElse (by omega) (evSome ?_))
    rw [List.drop_of_length_le (by omega)]
    rw [List.all_nil, Bool.true_and, Bool.eq_iff_iff, beq_iff_eq, decide_eq_true_iff]; omega
  | succ d ih =>
    intro i hi
    refine Ev.step (fun _ => rfl) (evIf (by omega) (evIf (by omega) (evIf (by omega) ?_)))
    rw [wrapSucc i (by omega), rdAt _ _ (by omega), dropCons x0 i (by omega)]
    by_cases h : x0[i] < 0
    · refine evIf h (evSome ?_)
      have : inV x0[i] = false := by unfold inV; rw [decide_eq_false_iff_not]; omega
      simp only [List.all_cons, this, Bool.false_and, Bool.true_and]
    · refine evElse h ?_
      by_cases h' : x0[i] > 99
      · refine evIf h' (evSome ?_)
        have : inV x0[i] = false := by unfold inV; rw [decide_eq_false_iff_not]; omega
        simp only [List.all_cons, this, Bool.false_and, Bool.true_and]
      · refine evElse h' (evEq (ih (i + 1) (by omega)) ?_)
        have : inV x0[i] = true := by unfold inV; rw [decide_eq_true_iff]; omega
        simp only [List.all_cons, this, Bool.false_and, Bool.true_and]
theorem ev_impl_ValidVector (l : List Int) (hn : l.length ≤ 2000000) : Ev (fun k => impl_ValidVector.f k l) (vv l) :=
  ev_impl_ValidVector_l0 l hn l.length 0 (by omega)
/-- Every entry of a is at most that of b (of equal lengths). -/
def leL : List Int → List Int → Bool
  | a :: l, b :: m => decide (a ≤ b) && leL l m
  | _, _ => true
def vle (a b : List Int) : Bool := vv a && (vv b && leL a b)
def maxL (a b : List Int) : List Int := List.zipWith mx a b
def minL (a b : List Int) : List Int := List.zipWith mn a b
def mostL (l : List Int) (m : Int) : Int := l.foldl mx m
theorem mostL_cons (a : Int) (l : List Int) (m : Int) : mostL (a :: l) m = mostL l (mx m a) := rfl
def nextS (l : List Int) (who : Int) : Int × Int := if vv l = true ∧ 0 ≤ who ∧ who ≤ 2 then (if 99 ≤ mostL l 0 then (0, 0) else (mostL l 0 + 1, who)) else (0, 0)
theorem mx_range {a b : Int} (h : 0 ≤ a ∧ a ≤ 99) (k : 0 ≤ b ∧ b ≤ 99) : 0 ≤ mx a b ∧ mx a b ≤ 99 := by unfold mx; omega
theorem mostL_range : ∀ (l : List Int) (m : Int), l.all inV = true → 0 ≤ m ∧ m ≤ 99 → 0 ≤ mostL l m ∧ mostL l m ≤ 99
  | [], m, _, hm => hm
  | a :: l, m, h, hm => by
    simp only [List.all_cons, Bool.and_eq_true] at h
    have ha : 0 ≤ a ∧ a ≤ 99 := by simpa [inV] using h.1
    exact mostL_range l (mx m a) h.2 (mx_range hm ha)
theorem vv_all {l : List Int} (h : vv l = true) : l.all inV = true := by
  simp only [vv, Bool.and_eq_true] at h
  exact h.1
theorem inV_get {l : List Int} (h : l.all inV = true) (i : Nat) (hi : i < l.length) : 0 ≤ l[i] ∧ l[i] ≤ 99 := by
  have := (List.all_eq_true.1 h) l[i] (List.getElem_mem hi)
  simpa [inV] using this
theorem eq_impl_isAuthor (a : Int) : impl_isAuthor.f a = some (decide (0 ≤ a ∧ a ≤ 2)) := by
  unfold impl_isAuthor.f
  by_cases h : 0 ≤ a
  · rw [if_pos h]
    by_cases h' : a ≤ 2
    · rw [decide_eq_true (show a < 3 by omega), decide_eq_true (⟨h, h'⟩ : 0 ≤ a ∧ a ≤ 2)]
    · rw [decide_eq_false (show ¬ a < 3 by omega), decide_eq_false (fun hh => h' hh.2)]
  · rw [if_neg h, decide_eq_false (fun hh => h hh.1)]
theorem ev_spec_vectorMax_l0 (x1 : List Int) (hn : x1.length ≤ 2000000) : ∀ (d i : Nat) (x5 : List Int), i + d = x5.length → x5.length = x1.length → Ev (fun k => spec_vectorMax.l0 k x1 x5 (i : Int)) (x5.take i ++ maxL (x5.drop i) (x1.drop i)) := by
  intro d
  induction d with
  | zero =>
    intro i x5 hi hl
    refine Ev.step (fun _ => rfl) (evElse (by omega) (evSome ?_))
    rw [List.drop_of_length_le (by omega), List.take_of_length_le (by omega)]; simp [maxL]
  | succ d ih =>
    intro i x5 hi hl
    refine Ev.step (fun _ => rfl) (evIf (by omega) (evIf (by omega) (evIf (by omega) ?_)))
    rw [wrapSucc i (by omega), rdAt _ _ (by omega), rdAt _ _ (by omega)]
    by_cases h : x1[i] > x5[i]
    · refine evIf h (evEq (ih (i + 1) _ (by simp; omega) (by simp; omega)) ?_)
      have e : mx x5[i] x1[i] = x1[i] := by unfold mx; omega
      rw [takeSucc _ i (by simp; omega), dropCons x5 i (by omega), dropCons x1 i (by omega)]
      simp only [Int.toNat_natCast, List.getElem_set_self, List.take_set_of_le (Nat.le_refl i), List.drop_set_of_lt (show i < i + 1 by omega), maxL, List.zipWith_cons_cons, e, List.append_assoc, List.singleton_append]
    · refine evElse h (evEq (ih (i + 1) _ (by omega) hl) ?_)
      have e : mx x5[i] x1[i] = x5[i] := by unfold mx; omega
      rw [takeSucc _ i (by omega), dropCons x5 i (by omega), dropCons x1 i (by omega)]
      simp only [maxL, List.zipWith_cons_cons, e, List.append_assoc, List.singleton_append]
theorem ev_spec_vectorMax (a b : List Int) (ha : a.length ≤ 2000000) (hl : a.length = b.length) : Ev (fun k => spec_vectorMax.f k a b) (maxL a b) := by
  unfold spec_vectorMax.f
  refine evPut rfl (evIf (by simp only [List.length_nil]; omega) ?_)
  exact evEq (ev_spec_vectorMax_l0 b (by omega) a.length 0 _ (by simp) (by simpa using hl)) (by simp)
theorem ev_spec_VectorMax (a b : List Int) (ha : a.length ≤ 2000000) (hb : b.length ≤ 2000000) : Ev (fun k => spec_VectorMax.f k a b) (if vv a = true ∧ vv b = true then maxL a b else []) := by
  unfold spec_VectorMax.f
  refine evBind (ev_spec_validVector a ha) ?_
  cases hva : vv a with
  | false => exact evElse (by simp) (evSome (by simp))
  | true =>
    refine evIf (by rfl) (evBind (ev_spec_validVector b hb) ?_)
    cases hvb : vv b with
    | false => exact evElse (by simp) (evSome (by simp))
    | true => exact evIf (by rfl) (evBind (ev_spec_vectorMax a b ha (by rw [vv_length hva, vv_length hvb])) (evSome (by simp)))
theorem ev_impl_VectorMax_l0 (x0 x1 : List Int) (hn : x1.length ≤ 2000000) (h01 : x0.length = x1.length) : ∀ (d i : Nat) (x5 : List Int), i + d = x1.length → x5.length = x1.length → Ev (fun k => impl_VectorMax.l0 k x0 x1 x5 (x1.length : Int) (i : Int)) (x5.take i ++ maxL (x0.drop i) (x1.drop i)) := by
  intro d
  induction d with
  | zero =>
    intro i x5 hi hl
    refine Ev.step (fun _ => rfl) (evElse (by omega) (evSome ?_))
    rw [List.drop_of_length_le (by omega), List.take_of_length_le (by omega)]; simp [maxL]
  | succ d ih =>
    intro i x5 hi hl
    refine Ev.step (fun _ => rfl) (evIf (by omega) (evIf (by omega) (evIf (by omega) (evIf (by omega) (evIf (by omega) ?_)))))
    rw [wrapSucc i (by omega), rdAt _ _ (by omega), rdAt _ _ (by omega)]
    refine evEq (ih (i + 1) _ (by omega) (by simp; omega)) ?_
    rw [takeSucc _ i (by simp; omega), dropCons x0 i (by omega), dropCons x1 i (by omega)]
    simp only [Int.toNat_natCast, List.getElem_set_self, List.take_set_of_le (Nat.le_refl i), maxL, List.zipWith_cons_cons, List.append_assoc, List.singleton_append]
theorem ev_impl_VectorMax (a b : List Int) (ha : a.length ≤ 2000000) (hb : b.length ≤ 2000000) : Ev (fun k => impl_VectorMax.f k a b) (if vv a = true ∧ vv b = true then maxL a b else []) := by
  unfold impl_VectorMax.f
  refine evBind (ev_impl_ValidVector a ha) ?_
  cases hva : vv a with
  | false => exact evElse (by simp) (evSucc (by simp only [impl_VectorMax.j0, if_true]; exact evSome (by simp)))
  | true =>
    refine evIf (by rfl) (evBind (ev_impl_ValidVector b hb) ?_)
    cases hvb : vv b with
    | false => exact evSucc (by simp only [impl_VectorMax.j0, Bool.not_false, if_true]; exact evSome (by simp))
    | true =>
      refine evSucc ?_
      simp only [impl_VectorMax.j0, Bool.not_true, Bool.false_eq_true, if_false]
      refine evIf (by omega) (evPut rfl ?_)
      have h3 := vv_length hvb
      have := ev_impl_VectorMax_l0 a b hb (by rw [vv_length hva, h3]) b.length 0 (List.replicate 3 0) (by omega) (by simp [h3])
      rw [h3] at this
      exact evEq this (by simp)
theorem ev_laws_markIntS_l0 : ∀ (d i : Nat) (x0 : List Int) (a : Int), x0.length ≤ 2000000 → i + d = x0.length → 0 ≤ a → a + d ≤ 100000000000 → Ev (fun k => laws_markIntS.l0 k x0 a (i : Int)) (a + d, x0.take i ++ iota a d) := by
  intro d
  induction d with
  | zero =>
    intro i x0 a hn hi _ _
    refine Ev.step (fun _ => rfl) (evElse (by omega) (evSome ?_))
    rw [List.take_of_length_le (by omega)]; simp [iota]
  | succ d ih =>
    intro i x0 a hn hi h0 h1
    refine Ev.step (fun _ => rfl) (evIf (by omega) (evIf (by omega) ?_))
    rw [wrapSucc i (by omega), wrapId (x := a + 1) (by omega) (by omega)]
    refine evEq (ih (i + 1) _ (a + 1) (by simpa using hn) (by simp; omega) (by omega) (by omega)) ?_
    rw [takeSucc _ i (by simp; omega), iota_succ]
    simp only [Int.toNat_natCast, List.getElem_set_self, List.take_set_of_le (Nat.le_refl i), List.append_assoc, List.singleton_append]
    congr 1; omega
theorem ev_laws_markIntS (l : List Int) (a : Int) (hn : l.length ≤ 2000000) (h0 : 0 ≤ a) (h1 : a + l.length ≤ 100000000000) : Ev (fun k => laws_markIntS.f k l a) (a + l.length, iota a l.length) :=
  evEq (ev_laws_markIntS_l0 l.length 0 l a hn (by omega) h0 h1) (by simp)
theorem ev_laws_heldIntS_l0 : ∀ (d i : Nat) (x0 : List Int) (a : Int), x0.length ≤ 2000000 → i + d = x0.length → 0 ≤ a → a + d ≤ 100000000000 → x0.drop i = iota a d → Ev (fun k => laws_heldIntS.l0 k x0 a (i : Int)) (a + d) := by
  intro d
  induction d with
  | zero =>
    intro i x0 a hn hi _ _ _
    exact Ev.step (fun _ => rfl) (evElse (by omega) (evSome (by simp)))
  | succ d ih =>
    intro i x0 a hn hi h0 h1 hd
    rw [dropCons x0 i (by omega), iota_succ] at hd
    injection hd with hd1 hd2
    refine Ev.step (fun _ => rfl) (evIf (by omega) (evIf (by omega) (evIf (by rw [rdAt _ _ (by omega)]; exact hd1) ?_)))
    rw [wrapSucc i (by omega), wrapId (x := a + 1) (by omega) (by omega)]
    exact evEq (ih (i + 1) x0 (a + 1) hn (by omega) (by omega) (by omega) hd2) (by omega)
theorem ev_laws_heldIntS (n : Nat) (a : Int) (hn : n ≤ 2000000) (h0 : 0 ≤ a) (h1 : a + n ≤ 100000000000) : Ev (fun k => laws_heldIntS.f k (iota a n) a) (a + n) :=
  ev_laws_heldIntS_l0 n 0 (iota a n) a (by rw [iota_length]; exact hn) (by rw [iota_length]; omega) h0 h1 (by simp)
theorem xorOk (a b : Int) (ha : 0 ≤ a ∧ a < 4611686018427387904) (hb : 0 ≤ b ∧ b < 4611686018427387904) : 0 ≤ Go.bits .xor .i64 a b := by
  obtain ⟨x, rfl⟩ := Int.eq_ofNat_of_zero_le ha.1
  obtain ⟨y, rfl⟩ := Int.eq_ofNat_of_zero_le hb.1
  have hx : x < 2 ^ 62 := by omega
  have hy : y < 2 ^ 62 := by omega
  have hz := Nat.xor_lt_two_pow hx hy
  have e : Go.bits .xor .i64 (x : Int) (y : Int) = ((x ^^^ y : Nat) : Int) := by
    simp only [Go.bits, BitVec.ofInt_natCast, BitVec.toNat_xor, BitVec.toNat_ofNat]
    rw [Nat.mod_eq_of_lt (show x < 2 ^ IntKind.i64.bits from Nat.lt_of_lt_of_le hx (by decide)), Nat.mod_eq_of_lt (show y < 2 ^ IntKind.i64.bits from Nat.lt_of_lt_of_le hy (by decide)), IntKind.wrap_i64]
    omega
  rw [e]; omega
/-- What a reader may hold: at most 2000 bytes. -/
structure BOk (b : List Int) : Prop where
  len : b.length ≤ 2000
  byte : ∀ x ∈ b, 0 ≤ x ∧ x ≤ 255
theorem BOk.rd {b : List Int} (h : BOk b) {i : Int} (h0 : 0 ≤ i) (h1 : i < b.length) : 0 ≤ Go.Proofs.YteloibbhcdfepaaW.PrintWords.rd b i ∧ Go.Proofs.YteloibbhcdfepaaW.PrintWords.rd b i ≤ 255 := by
  obtain ⟨n, rfl⟩ := Int.eq_ofNat_of_zero_le h0
  rw [rdAt _ _ (by omega)]
  exact h.byte _ (List.getElem_mem _)
theorem wf_u8 {l : List Int} (h : ∀ x ∈ l, (Lit.int .u8 x).wf = true) : ∀ x ∈ l, 0 ≤ x ∧ x ≤ 255 := fun x hx => by
  have := h x hx
  simp [Lit.wf, IntKind.min, IntKind.max, IntKind.bits, IntKind.signed] at this
  omega
/-- A call that draws: it comes to its answer v and moves the place on from p by at most m. -/
def Draws {α : Type} (g : Nat → Option (α × Int)) (p m : Int) (P : α → Prop) : Prop := ∃ v q, Ev g (v, q) ∧ p ≤ q ∧ q ≤ p + m ∧ P v
def vst (q a : Int) : Bool := decide ((1 ≤ q ∧ q ≤ 99) ∧ 0 ≤ a ∧ a ≤ 2)
def slt (q a q' a' : Int) : Bool := decide (q < q' ∨ (q = q' ∧ a < a'))
theorem eq_laws_toStamp (a b : Int) : laws_toStamp.f a b = some (a, b) := rfl
theorem eq_spec_validStamp (a b : Int) : spec_validStamp.f a b = some (vst a b) := by
  unfold spec_validStamp.f vst
  simp only [eq_spec_inRange, Option.bind_some]
  by_cases h : 1 ≤ a ∧ a ≤ 99
  · simp only [h, decide_true, if_true, and_self, true_and]
  · simp only [h, decide_false, Bool.false_eq_true, if_false, false_and]
theorem eq_impl_ValidStamp (a b : Int) : impl_ValidStamp.f a b = some (vst a b) := by
  unfold impl_ValidStamp.f vst
  simp only [eq_impl_isAuthor, Option.bind_some]
  by_cases h : 1 ≤ a
  · by_cases h' : a ≤ 99
    · simp only [ge_iff_le, h, h', if_true, and_self, true_and]
    · simp only [ge_iff_le, h, h', if_true, if_false, and_false, false_and, decide_false]
  · simp only [ge_iff_le, h, if_false, false_and, decide_false]
theorem eq_spec_vectorContains (l : List Int) (q a : Int) (hl : l.length = 3) (ha : 0 ≤ a ∧ a ≤ 2) : spec_vectorContains.f l q a = some (decide (q ≤ rd l a)) := by
  unfold spec_vectorContains.f
  rw [if_pos ha.1, if_pos (by omega)]
/-- The vector covers the stamp. -/
def vco (l : List Int) (q a : Int) : Bool := vv l && (vst q a && decide (q ≤ rd l a))
theorem ev_spec_VectorContains (l : List Int) (q a : Int) (hn : l.length ≤ 2000000) : Ev (fun k => spec_VectorContains.f k l q a) (vco l q a) := by
  unfold spec_VectorContains.f vco
  refine evBind (ev_spec_validVector l hn) ?_
  cases hv : vv l with
  | false => exact evElse (by simp) (Ev.now _)
  | true =>
    refine evIf (by rfl) (evPut (eq_spec_validStamp _ _) ?_)
    cases hs : vst q a with
    | false => exact evElse (by simp) (evSome (by simp))
    | true =>
      refine evIf (by rfl) (evPut (eq_spec_vectorContains l q a (vv_length hv) ?_) (evSome (by simp)))
      simp only [vst, decide_eq_true_eq] at hs; exact hs.2
theorem ev_impl_VectorContains (l : List Int) (q a : Int) (hn : l.length ≤ 2000000) : Ev (fun k => impl_VectorContains.f k l q a) (vco l q a) := by
  unfold impl_VectorContains.f vco
  refine evBind (ev_impl_ValidVector l hn) ?_
  cases hv : vv l with
  | false => exact evElse (by simp) (Ev.now _)
  | true =>
    refine evIf (by rfl) (evPut (eq_impl_ValidStamp _ _) ?_)
    cases hs : vst q a with
    | false => exact evElse (by simp) (evSome (by simp))
    | true =>
      have h3 := vv_length hv
      simp only [vst, decide_eq_true_eq] at hs
      exact evIf (by rfl) (evIf hs.2.1 (evIf (by omega) (evSome (by simp))))
theorem FnExactVectorContains : ∀ (l0 : List Int) (x1_f0 x1_f1 : Int), l0.length ≤ maxLen → l0.length * 8 ≤ 140737488351232 → (∀ x ∈ l0, (Lit.int .i64 x).wf = true) → ((Lit.int .i64 x1_f0).wf = true ∧ (Lit.int .i64 x1_f1).wf = true) → ∃ k, laws_FnExactVectorContains.f k l0 x1_f0 x1_f1 = some true := by
  intro l _ _ _ _ _ _
  apply Ev.rounds
  unfold laws_FnExactVectorContains.f
  by_cases hn : (l.length : Int) > 1048576
  · exact evIf hn (Ev.now _)
  have hn' : l.length ≤ 2000000 := by omega
  refine evElse hn (evBind (ev_laws_toIntS l hn') (evPut (eq_laws_toStamp _ _) (evBind (ev_spec_VectorContains _ _ _ hn') (evBind (ev_laws_toIntS l hn') (evPut (eq_laws_toStamp _ _) (evBind (ev_impl_VectorContains _ _ _ hn') (evElse (by simp) ?_)))))))
  exact evBind (ev_laws_toIntS l hn') (evBind (ev_laws_eqIntS l l hn') (evIf (by simp) (Ev.now _)))

end Go.Proofs.Yteloibbhcdfepaa.Pure

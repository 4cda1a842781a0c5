/- The plain side of the statement FnExactVectorMin: the printed functions answer true at every input. Conditions: none beyond the given statement's own. -/
import Derived.Test.YtpjbkdhehdpapaaQAx3
import Derived.Test.YtpjbkdhehdpapaaBase
namespace Go.Proofs.Ytpjbkdhehdpapaa.Pure
open Go.RowKit Go.Proofs.Ytpjbkdhehdpapaa.QA Go.Proofs.YtpjbkdhehdpapaaW.PrintWords Go.Proofs.YtpjbkdhehdpapaaW.PrintLast Go.Proofs.Ytpjbkdhehdpapaa.Base
set_option linter.unusedVariables false
set_option linter.unusedSimpArgs false

def inV (x : Int) : Bool := decide (0 ≤ x ∧ x ≤ 99)
/-- A valid vector: three entries of 0 to 99. -/
def vv (l : List Int) : Bool := l.all inV && decide (l.length = 3)
theorem vv_length {l : List Int} (h : vv l = true) : l.length = 3 := by
  simp only [vv, Bool.and_eq_true, decide_eq_true_eq] at h
  exact h.2
theorem vv_form {l : List Int} (h : vv l = true) : ∃ a b c, l = [a, b, c] ∧ (0 ≤ a ∧ a ≤ 99) ∧ (0 ≤ b ∧ b ≤ 99) ∧ (0 ≤ c ∧ c ≤ 99) := by
  have hl := vv_length h
  match l, hl with
  | [a, b, c], _ =>
    simp [vv, inV] at h
    exact ⟨a, b, c, rfl, h⟩
def iota (a : Int) (n : Nat) : List Int := (List.range n).map fun i : Nat => a + (i : Int)
theorem iota_length (a : Int) (n : Nat) : (iota a n).length = n := by simp [iota]
theorem iota_succ (a : Int) (n : Nat) : iota a (n + 1) = a :: iota (a + 1) n := by
  simp only [iota, List.range_succ_eq_map, List.map_cons, List.map_map]
  congr 1
  · simp
  · apply List.map_congr_left; intro i _; simp only [Function.comp]; omega
theorem ev_laws_toIntS_l0 (x0 : List Int) (hn : x0.length ≤ 2000000) : ∀ (d i : Nat) (x3 : List Int), i + d = x0.length → x3.length = x0.length → x3.take i = x0.take i → Ev (fun k => laws_toIntS.l0 k x0 x3 (i : Int)) x0 := by
  intro d
  induction d with
  | zero =>
    intro i x3 hi hl ht
    refine Ev.step (fun _ => rfl) (evElse (by omega) (evSome ?_))
    rwa [List.take_of_length_le (by omega), List.take_of_length_le (by omega)] at ht
  | succ d ih =>
    intro i x3 hi hl ht
    refine Ev.step (fun _ => rfl) (evIf (by omega) (evIf (by omega) (evIf (by omega) ?_)))
    rw [wrapSucc i (by omega), rdAt _ _ (by omega)]
    refine ih (i + 1) _ (by omega) (by simp [hl]) ?_
    rw [takeSucc x0 i (by omega), takeSucc _ i (by simp; omega)]
    simp only [Int.toNat_natCast, List.getElem_set_self]
    rw [List.take_set_of_le (Nat.le_refl i), ht]
theorem ev_laws_toIntS (l : List Int) (hn : l.length ≤ 2000000) : Ev (fun k => laws_toIntS.f k l) l := by
  unfold laws_toIntS.f
  refine evIf (by omega) (evIf (by omega) ?_)
  exact ev_laws_toIntS_l0 l hn l.length 0 _ (by omega) (by simp) (by simp)
theorem ev_laws_eqIntS_l0 (x0 x1 : List Int) (hn : x0.length ≤ 2000000) (hl : x0.length = x1.length) : ∀ (d i : Nat), i + d = x0.length → Ev (fun k => laws_eqIntS.l0 k x0 x1 (i : Int)) (decide (x0.drop i = x1.drop i)) := by
  intro d
  induction d with
  | zero =>
    intro i hi
    refine Ev.step (fun _ => rfl) (evElse (by omega) (evSome ?_))
    rw [List.drop_of_length_le (by omega), List.drop_of_length_le (by omega)]; simp
  | succ d ih =>
    intro i hi
    refine Ev.step (fun _ => rfl) (evIf (by omega) (evIf (by omega) (evIf (by omega) ?_)))
    rw [wrapSucc i (by omega), rdAt _ _ (by omega), rdAt _ _ (by omega), dropCons x0 i (by omega), dropCons x1 i (by omega)]
    by_cases h : x0[i] = x1[i]
    · refine evIf h (evEq (ih (i + 1) (by omega)) ?_)
      simp only [h, List.cons.injEq, true_and]
    · refine evElse h (evSome ?_)
      simp only [h, List.cons.injEq, false_and, decide_false]
theorem ev_laws_eqIntS (a b : List Int) (hn : a.length ≤ 2000000) : Ev (fun k => laws_eqIntS.f k a b) (decide (a = b)) := by
  unfold laws_eqIntS.f
  by_cases h : a.length = b.length
  · exact evIf (by omega) (evEq (ev_laws_eqIntS_l0 a b hn h a.length 0 (by omega)) (by simp))
  · refine evElse (by omega) (evSome ?_)
    rw [eq_comm, decide_eq_false_iff_not]
    intro e; exact h (by rw [e])
theorem eq_spec_inRange (a lo hi : Int) : spec_inRange.f a lo hi = some (decide (lo ≤ a ∧ a ≤ hi)) := by
  unfold spec_inRange.f
  by_cases h : lo ≤ a <;> simp [h]
theorem ev_spec_validVector_l0 (x0 : List Int) (hn : x0.length ≤ 2000000) : ∀ (d i : Nat), i + d = x0.length → Ev (fun k => spec_validVector.l0 k x0 (i : Int)) ((x0.drop i).all inV && decide (x0.length = 3)) := by
  intro d
  induction d with
  | zero =>
    intro i hi
    refine Ev.step (fun _ => rfl) (evElse (by omega) (evSome ?_))
    rw [List.drop_of_length_le (by omega)]
    rw [List.all_nil, Bool.true_and, Bool.eq_iff_iff, beq_iff_eq, decide_eq_true_iff]; omega
  | succ d ih =>
    intro i hi
    refine Ev.step (fun _ => rfl) (evIf (by omega) (evIf (by omega) (evPut (eq_spec_inRange _ _ _) ?_)))
    rw [wrapSucc i (by omega), rdAt _ _ (by omega), dropCons x0 i (by omega)]
    by_cases h : 0 ≤ x0[i] ∧ x0[i] ≤ 99
    · refine evIf (by simpa using h) (evEq (ih (i + 1) (by omega)) ?_)
      simp only [List.all_cons, inV, h, and_self, decide_true, Bool.true_and]
    · refine evElse (by simpa using h) (evSome ?_)
      simp only [List.all_cons, inV, h, decide_false, Bool.false_and]
theorem ev_spec_validVector (l : List Int) (hn : l.length ≤ 2000000) : Ev (fun k => spec_validVector.f k l) (vv l) :=
  ev_spec_validVector_l0 l hn l.length 0 (by omega)
theorem ev_impl_ValidVector_l0 (x0 : List Int) (hn : x0.length ≤ 2000000) : ∀ (d i : Nat), i + d = x0.length → Ev (fun k => impl_ValidVector.l0 k x0 x0 (x0.length : Int) (i : Int)) ((x0.drop i).all inV && decide (x0.length = 3)) := by
  intro d
  induction d with
  | zero =>
    intro i hi
    refine Ev.step (fun _ => rfl) (evElse (by omega) (evSome ?_))
    rw [List.drop_of_length_le (by omega)]
    rw [List.all_nil, Bool.true_and, Bool.eq_iff_iff, beq_iff_eq, decide_eq_true_iff]; omega
  | succ d ih =>
    intro i hi
    refine Ev.step (fun _ => rfl) (evIf (by omega) (evIf (by omega) (evIf (by omega) ?_)))
    rw [wrapSucc i (by omega), rdAt _ _ (by omega), dropCons x0 i (by omega)]
    by_cases h : x0[i] < 0
    · refine evIf h (evSome ?_)
      have : inV x0[i] = false := by unfold inV; rw [decide_eq_false_iff_not]; omega
      simp only [List.all_cons, this, Bool.false_and, Bool.true_and]
    · refine evElse h ?_
      by_cases h' : x0[i] > 99
      · refine evIf h' (evSome ?_)
        have : inV x0[i] = false := by unfold inV; rw [decide_eq_false_iff_not]; omega
        simp only [List.all_cons, this, Bool.false_and, Bool.true_and]
      · refine evElse h' (evEq (ih (i + 1) (by omega)) ?_)
        have : inV x0[i] = true := by unfold inV; rw [decide_eq_true_iff]; omega
        simp only [List.all_cons, this, Bool.false_and, Bool.true_and]
theorem ev_impl_ValidVector (l : List Int) (hn : l.length ≤ 2000000) : Ev (fun k => impl_ValidVector.f k l) (vv l) :=
  ev_impl_ValidVector_l0 l hn l.length 0 (by omega)
/-- Every entry of a is at most that of b (of equal lengths). -/
def leL : List Int → List Int → Bool
  | a :: l, b :: m => decide (a ≤ b) && leL l m
  | _, _ => true
def vle (a b : List Int) : Bool := vv a && (vv b && leL a b)
def maxL (a b : List Int) : List Int := List.zipWith mx a b
def minL (a b : List Int) : List Int := List.zipWith mn a b
def mostL (l : List Int) (m : Int) : Int := l.foldl mx m
theorem mostL_cons (a : Int) (l : List Int) (m : Int) : mostL (a :: l) m = mostL l (mx m a) := rfl
def nextS (l : List Int) (who : Int) : Int × Int := if vv l = true ∧ 0 ≤ who ∧ who ≤ 2 then (if 99 ≤ mostL l 0 then (0, 0) else (mostL l 0 + 1, who)) else (0, 0)
theorem mx_range {a b : Int} (h : 0 ≤ a ∧ a ≤ 99) (k : 0 ≤ b ∧ b ≤ 99) : 0 ≤ mx a b ∧ mx a b ≤ 99 := by unfold mx; omega
theorem mostL_range : ∀ (l : List Int) (m : Int), l.all inV = true → 0 ≤ m ∧ m ≤ 99 → 0 ≤ mostL l m ∧ mostL l m ≤ 99
  | [], m, _, hm => hm
  | a :: l, m, h, hm => by
    simp only [List.all_cons, Bool.and_eq_true] at h
    have ha : 0 ≤ a ∧ a ≤ 99 := by simpa [inV] using h.1
    exact mostL_range l (mx m a) h.2 (mx_range hm ha)
theorem vv_all {l : List Int} (h : vv l = true) : l.all inV = true := by
  simp only [vv, Bool.and_eq_true] at h
  exact h.1
theorem inV_get {l : List Int} (h : l.all inV = true) (i : Nat) (hi : i < l.length) : 0 ≤ l[i] ∧ l[i] ≤ 99 := by
  have := (List.all_eq_true.1 h) l[i] (List.getElem_mem hi)
  simpa [inV] using this
theorem ev_laws_markIntS_l0 : ∀ (d i : Nat) (x0 : List Int) (a : Int), x0.length ≤ 2000000 → i + d = x0.length → 0 ≤ a → a + d ≤ 100000000000 → Ev (fun k => laws_markIntS.l0 k x0 a (i : Int)) (a + d, x0.take i ++ iota a d) := by
  intro d
  induction d with
  | zero =>
    intro i x0 a hn hi _ _
    refine Ev.step (fun _ => rfl) (evElse (by omega) (evSome ?_))
    rw [List.take_of_length_le (by omega)]; simp [iota]
  | succ d ih =>
    intro i x0 a hn hi h0 h1
    refine Ev.step (fun _ => rfl) (evIf (by omega) (evIf (by omega) ?_))
    rw [wrapSucc i (by omega), wrapId (x := a + 1) (by omega) (by omega)]
    refine evEq (ih (i + 1) _ (a + 1) (by simpa using hn) (by simp; omega) (by omega) (by omega)) ?_
    rw [takeSucc _ i (by simp; omega), iota_succ]
    simp only [Int.toNat_natCast, List.getElem_set_self, List.take_set_of_le (Nat.le_refl i), List.append_assoc, List.singleton_append]
    congr 1; omega
theorem ev_laws_markIntS (l : List Int) (a : Int) (hn : l.length ≤ 2000000) (h0 : 0 ≤ a) (h1 : a + l.length ≤ 100000000000) : Ev (fun k => laws_markIntS.f k l a) (a + l.length, iota a l.length) :=
  evEq (ev_laws_markIntS_l0 l.length 0 l a hn (by omega) h0 h1) (by simp)
theorem ev_laws_heldIntS_l0 : ∀ (d i : Nat) (x0 : List Int) (a : Int), x0.length ≤ 2000000 → i + d = x0.length → 0 ≤ a → a + d ≤ 100000000000 → x0.drop i = iota a d → Ev (fun k => laws_heldIntS.l0 k x0 a (i : Int)) (a + d) := by
  intro d
  induction d with
  | zero =>
    intro i x0 a hn hi _ _ _
    exact Ev.step (fun _ => rfl) (evElse (by omega) (evSome (by simp)))
  | succ d ih =>
    intro i x0 a hn hi h0 h1 hd
    rw [dropCons x0 i (by omega), iota_succ] at hd
    injection hd with hd1 hd2
    refine Ev.step (fun _ => rfl) (evIf (by omega) (evIf (by omega) (evIf (by rw [rdAt _ _ (by omega)]; exact hd1) ?_)))
    rw [wrapSucc i (by omega), wrapId (x := a + 1) (by omega) (by omega)]
    exact evEq (ih (i + 1) x0 (a + 1) hn (by omega) (by omega) (by omega) hd2) (by omega)
theorem ev_laws_heldIntS (n : Nat) (a : Int) (hn : n ≤ 2000000) (h0 : 0 ≤ a) (h1 : a + n ≤ 100000000000) : Ev (fun k => laws_heldIntS.f k (iota a n) a) (a + n) :=
  ev_laws_heldIntS_l0 n 0 (iota a n) a (by rw [iota_length]; exact hn) (by rw [iota_length]; omega) h0 h1 (by simp)
theorem xorOk (a b : Int) (ha : 0 ≤ a ∧ a < 4611686018427387904) (hb : 0 ≤ b ∧ b < 4611686018427387904) : 0 ≤ Go.bits .xor .i64 a b := by
  obtain ⟨x, rfl⟩ := Int.eq_ofNat_of_zero_le ha.1
  obtain ⟨y, rfl⟩ := Int.eq_ofNat_of_zero_le hb.1
  have hx : x < 2 ^ 62 := by omega
  have hy : y < 2 ^ 62 := by omega
  have hz := Nat.xor_lt_two_pow hx hy
  have e : Go.bits .xor .i64 (x : Int) (y : Int) = ((x ^^^ y : Nat) : Int) := by
    simp only [Go.bits, BitVec.ofInt_natCast, BitVec.toNat_xor, BitVec.toNat_ofNat]
    rw [Nat.mod_eq_of_lt (show x < 2 ^ IntKind.i64.bits from Nat.lt_of_lt_of_le hx (by decide)), Nat.mod_eq_of_lt (show y < 2 ^ IntKind.i64.bits from Nat.lt_of_lt_of_le hy (by decide)), IntKind.wrap_i64]
    omega
  rw [e]; omega
/-- What a reader may hold: at most 2000 bytes. -/
structure BOk (b : List Int) : Prop where
  len : b.length ≤ 2000
  byte : ∀ x ∈ b, 0 ≤ x ∧ x ≤ 255
theorem BOk.rd {b : List Int} (h : BOk b) {i : Int} (h0 : 0 ≤ i) (h1 : i < b.length) : 0 ≤ Go.Proofs.YtpjbkdhehdpapaaW.PrintWords.rd b i ∧ Go.Proofs.YtpjbkdhehdpapaaW.PrintWords.rd b i ≤ 255 := by
  obtain ⟨n, rfl⟩ := Int.eq_ofNat_of_zero_le h0
  rw [rdAt _ _ (by omega)]
  exact h.byte _ (List.getElem_mem _)
theorem wf_u8 {l : List Int} (h : ∀ x ∈ l, (Lit.int .u8 x).wf = true) : ∀ x ∈ l, 0 ≤ x ∧ x ≤ 255 := fun x hx => by
  have := h x hx
  simp [Lit.wf, IntKind.min, IntKind.max, IntKind.bits, IntKind.signed] at this
  omega
/-- A call that draws: it comes to its answer v and moves the place on from p by at most m. -/
def Draws {α : Type} (g : Nat → Option (α × Int)) (p m : Int) (P : α → Prop) : Prop := ∃ v q, Ev g (v, q) ∧ p ≤ q ∧ q ≤ p + m ∧ P v
def vst (q a : Int) : Bool := decide ((1 ≤ q ∧ q ≤ 99) ∧ 0 ≤ a ∧ a ≤ 2)
def slt (q a q' a' : Int) : Bool := decide (q < q' ∨ (q = q' ∧ a < a'))
/-- The vector covers the stamp. -/
def vco (l : List Int) (q a : Int) : Bool := vv l && (vst q a && decide (q ≤ rd l a))
theorem ev_spec_vectorMin_l0 (x1 : List Int) (hn : x1.length ≤ 2000000) : ∀ (d i : Nat) (x5 : List Int), i + d = x5.length → x5.length = x1.length → Ev (fun k => spec_vectorMin.l0 k x1 x5 (i : Int)) (x5.take i ++ minL (x5.drop i) (x1.drop i)) := by
  intro d
  induction d with
  | zero =>
    intro i x5 hi hl
    refine Ev.step (fun _ => rfl) (evElse (by omega) (evSome ?_))
    rw [List.drop_of_length_le (by omega), List.take_of_length_le (by omega)]; simp [minL]
  | succ d ih =>
    intro i x5 hi hl
    refine Ev.step (fun _ => rfl) (evIf (by omega) (evIf (by omega) (evIf (by omega) ?_)))
    rw [wrapSucc i (by omega), rdAt _ _ (by omega), rdAt _ _ (by omega)]
    by_cases h : x1[i] < x5[i]
    · refine evIf h (evEq (ih (i + 1) _ (by simp; omega) (by simp; omega)) ?_)
      have e : mn x5[i] x1[i] = x1[i] := by unfold mn; omega
      rw [takeSucc _ i (by simp; omega), dropCons x5 i (by omega), dropCons x1 i (by omega)]
      simp only [Int.toNat_natCast, List.getElem_set_self, List.take_set_of_le (Nat.le_refl i), List.drop_set_of_lt (show i < i + 1 by omega), minL, List.zipWith_cons_cons, e, List.append_assoc, List.singleton_append]
    · refine evElse h (evEq (ih (i + 1) _ (by omega) hl) ?_)
      have e : mn x5[i] x1[i] = x5[i] := by unfold mn; omega
      rw [takeSucc _ i (by omega), dropCons x5 i (by omega), dropCons x1 i (by omega)]
      simp only [minL, List.zipWith_cons_cons, e, List.append_assoc, List.singleton_append]
theorem ev_spec_vectorMin (a b : List Int) (ha : a.length ≤ 2000000) (hl : a.length = b.length) : Ev (fun k => spec_vectorMin.f k a b) (minL a b) := by
  unfold spec_vectorMin.f
  refine evPut rfl (evIf (by simp only [List.length_nil]; omega) ?_)
  exact evEq (ev_spec_vectorMin_l0 b (by omega) a.length 0 _ (by simp) (by simpa using hl)) (by simp)
theorem ev_spec_VectorMin (a b : List Int) (ha : a.length ≤ 2000000) (hb : b.length ≤ 2000000) : Ev (fun k => spec_VectorMin.f k a b) (if vv a = true ∧ vv b = true then minL a b else []) := by
  unfold spec_VectorMin.f
  refine evBind (ev_spec_validVector a ha) ?_
  cases hva : vv a with
  | false => exact evElse (by simp) (evSome (by simp))
  | true =>
    refine evIf (by rfl) (evBind (ev_spec_validVector b hb) ?_)
    cases hvb : vv b with
    | false => exact evElse (by simp) (evSome (by simp))
    | true => exact evIf (by rfl) (evBind (ev_spec_vectorMin a b ha (by rw [vv_length hva, vv_length hvb])) (evSome (by simp)))
theorem ev_impl_VectorMin_l0 (x0 x1 : List Int) (hn : x1.length ≤ 2000000) (h01 : x0.length = x1.length) : ∀ (d i : Nat) (x5 : List Int), i + d = x1.length → x5.length = x1.length → Ev (fun k => impl_VectorMin.l0 k x0 x1 x5 (x1.length : Int) (i : Int)) (x5.take i ++ minL (x0.drop i) (x1.drop i)) := by
  intro d
  induction d with
  | zero =>
    intro i x5 hi hl
    refine Ev.step (fun _ => rfl) (evElse (by omega) (evSome ?_))
    rw [List.drop_of_length_le (by omega), List.take_of_length_le (by omega)]; simp [minL]
  | succ d ih =>
    intro i x5 hi hl
    refine Ev.step (fun _ => rfl) (evIf (by omega) (evIf (by omega) (evIf (by omega) (evIf (by omega) (evIf (by omega) ?_)))))
    rw [wrapSucc i (by omega), rdAt _ _ (by omega), rdAt _ _ (by omega)]
    refine evEq (ih (i + 1) _ (by omega) (by simp; omega)) ?_
    rw [takeSucc _ i (by simp; omega), dropCons x0 i (by omega), dropCons x1 i (by omega)]
    simp only [Int.toNat_natCast, List.getElem_set_self, List.take_set_of_le (Nat.le_refl i), minL, List.zipWith_cons_cons, List.append_assoc, List.singleton_append]
theorem ev_impl_VectorMin (a b : List Int) (ha : a.length ≤ 2000000) (hb : b.length ≤ 2000000) : Ev (fun k => impl_VectorMin.f k a b) (if vv a = true ∧ vv b = true then minL a b else []) := by
  unfold impl_VectorMin.f
  refine evBind (ev_impl_ValidVector a ha) ?_
  cases hva : vv a with
  | false => exact evElse (by simp) (evSucc (by simp only [impl_VectorMin.j0, if_true]; exact evSome (by simp)))
  | true =>
    refine evIf (by rfl) (evBind (ev_impl_ValidVector b hb) ?_)
    cases hvb : vv b with
    | false => exact evSucc (by simp only [impl_VectorMin.j0, Bool.not_false, if_true]; exact evSome (by simp))
    | true =>
      refine evSucc ?_
      simp only [impl_VectorMin.j0, Bool.not_true, Bool.false_eq_true, if_false]
      refine evIf (by omega) (evPut rfl ?_)
      have h3 := vv_length hvb
      have := ev_impl_VectorMin_l0 a b hb (by rw [vv_length hva, h3]) b.length 0 (List.replicate 3 0) (by omega) (by simp [h3])
      rw [h3] at this
      exact evEq this (by simp)
theorem mostL_self (l : List Int) : ∀ m, m ≤ mostL l m := by
  induction l with
  | nil => intro m; exact Int.le_refl _
  | cons a l ih =>
    intro m
    rw [mostL_cons]
    have := ih (mx m a)
    have : m ≤ mx m a := by unfold mx; omega
    omega
theorem mostL_mem (l : List Int) : ∀ m (i : Nat) (h : i < l.length), l[i] ≤ mostL l m := by
  induction l with
  | nil => intro m i h; simp at h
  | cons a l ih =>
    intro m i h
    rw [mostL_cons]
    cases i with
    | zero =>
      have := mostL_self l (mx m a)
      have : a ≤ mx m a := by unfold mx; omega
      simp; omega
    | succ i => simpa using ih (mx m a) i (by simpa using h)
theorem nextS_some {c : List Int} {who : Int} (h : ¬ ((nextS c who).1 = 0 ∧ (nextS c who).2 = 0)) : vv c = true ∧ 0 ≤ who ∧ who ≤ 2 ∧ nextS c who = (mostL c 0 + 1, who) ∧ 0 ≤ mostL c 0 ∧ mostL c 0 < 99 := by
  unfold nextS at h ⊢
  split at h
  · rename_i hc
    split at h
    · exact absurd ⟨rfl, rfl⟩ h
    · rename_i h9
      have := mostL_range c 0 (vv_all hc.1) (by omega)
      rw [if_pos hc, if_neg h9]
      exact ⟨hc.1, hc.2.1, hc.2.2, rfl, this.1, by omega⟩
  · exact absurd ⟨rfl, rfl⟩ h
theorem vco_le {c : List Int} {q a : Int} (h : vco c q a = true) : q ≤ mostL c 0 := by
  simp only [vco, Bool.and_eq_true, decide_eq_true_eq] at h
  obtain ⟨h1, h2, h3⟩ := h
  have hl := vv_length h1
  simp only [vst, decide_eq_true_eq] at h2
  obtain ⟨n, rfl⟩ := Int.eq_ofNat_of_zero_le h2.2.1
  rw [rdAt _ _ (by omega)] at h3
  have := mostL_mem c 0 n (by omega)
  omega
theorem rd3_0 (x y z : Int) : rd [x, y, z] 0 = x := rfl
theorem rd3_1 (x y z : Int) : rd [x, y, z] 1 = y := rfl
theorem rd3_2 (x y z : Int) : rd [x, y, z] 2 = z := rfl
theorem vv_mk {x y z : Int} (hx : 0 ≤ x ∧ x ≤ 99) (hy : 0 ≤ y ∧ y ≤ 99) (hz : 0 ≤ z ∧ z ≤ 99) : vv [x, y, z] = true := by simp [vv, inV, hx, hy, hz]
theorem mn_range {a b : Int} (h : 0 ≤ a ∧ a ≤ 99) (k : 0 ≤ b ∧ b ≤ 99) : 0 ≤ mn a b ∧ mn a b ≤ 99 := by unfold mn; omega
theorem vst_at {q a : Int} (h : vst q a = true) : a = 0 ∨ a = 1 ∨ a = 2 := by
  simp only [vst, decide_eq_true_eq] at h; omega
theorem vv_max {a b : List Int} (ha : vv a = true) (hb : vv b = true) : vv (maxL a b) = true := by
  obtain ⟨a1, a2, a3, rfl, h1, h2, h3⟩ := vv_form ha
  obtain ⟨b1, b2, b3, rfl, k1, k2, k3⟩ := vv_form hb
  exact vv_mk (mx_range h1 k1) (mx_range h2 k2) (mx_range h3 k3)
theorem vv_min {a b : List Int} (ha : vv a = true) (hb : vv b = true) : vv (minL a b) = true := by
  obtain ⟨a1, a2, a3, rfl, h1, h2, h3⟩ := vv_form ha
  obtain ⟨b1, b2, b3, rfl, k1, k2, k3⟩ := vv_form hb
  exact vv_mk (mn_range h1 k1) (mn_range h2 k2) (mn_range h3 k3)
theorem le_mx (q a b : Int) : decide (q ≤ mx a b) = (decide (q ≤ a) || decide (q ≤ b)) := by
  rw [Bool.eq_iff_iff]; simp only [Bool.or_eq_true, decide_eq_true_eq]; unfold mx; omega
theorem le_mn (q a b : Int) : decide (q ≤ mn a b) = (decide (q ≤ a) && decide (q ≤ b)) := by
  rw [Bool.eq_iff_iff]; simp only [Bool.and_eq_true, decide_eq_true_eq]; unfold mn; omega
theorem vco_max {a b : List Int} (ha : vv a = true) (hb : vv b = true) (q c : Int) : vco (maxL a b) q c = (vco a q c || vco b q c) := by
  cases hs : vst q c with
  | false => simp [vco, hs]
  | true =>
    simp only [vco, vv_max ha hb, ha, hb, hs, Bool.true_and]
    obtain ⟨a1, a2, a3, rfl, _⟩ := vv_form ha
    obtain ⟨b1, b2, b3, rfl, _⟩ := vv_form hb
    rcases vst_at hs with rfl | rfl | rfl <;> exact le_mx _ _ _
theorem vco_min {a b : List Int} (ha : vv a = true) (hb : vv b = true) (q c : Int) : vco (minL a b) q c = (vco a q c && vco b q c) := by
  cases hs : vst q c with
  | false => simp [vco, hs]
  | true =>
    simp only [vco, vv_min ha hb, ha, hb, hs, Bool.true_and]
    obtain ⟨a1, a2, a3, rfl, _⟩ := vv_form ha
    obtain ⟨b1, b2, b3, rfl, _⟩ := vv_form hb
    rcases vst_at hs with rfl | rfl | rfl <;> exact le_mn _ _ _
theorem mx_comm (a b : Int) : mx a b = mx b a := by unfold mx; omega
theorem mn_comm (a b : Int) : mn a b = mn b a := by unfold mn; omega
theorem maxL_comm (a : List Int) : ∀ b, maxL a b = maxL b a := by
  induction a with
  | nil => intro b; cases b <;> rfl
  | cons x a ih => intro b; cases b with
    | nil => rfl
    | cons y b => simp only [maxL, List.zipWith_cons_cons, mx_comm x y]; exact congrArg _ (ih b)
theorem minL_comm (a : List Int) : ∀ b, minL a b = minL b a := by
  induction a with
  | nil => intro b; cases b <;> rfl
  | cons x a ih => intro b; cases b with
    | nil => rfl
    | cons y b => simp only [minL, List.zipWith_cons_cons, mn_comm x y]; exact congrArg _ (ih b)
theorem leL_min_max (a : List Int) : ∀ b, leL (minL a b) (maxL a b) = true := by
  induction a with
  | nil => intro b; cases b <;> rfl
  | cons x a ih => intro b; cases b with
    | nil => rfl
    | cons y b =>
      simp only [minL, maxL, List.zipWith_cons_cons, leL, Bool.and_eq_true, decide_eq_true_eq]
      exact ⟨by unfold mn mx; omega, ih b⟩
theorem leL_iff (a : List Int) : ∀ b, a.length = b.length → leL a b = decide (maxL a b = b) := by
  induction a with
  | nil => intro b h; cases b with
    | nil => rfl
    | cons y b => simp at h
  | cons x a ih => intro b h; cases b with
    | nil => simp at h
    | cons y b =>
      have := ih b (by simpa using h)
      simp only [leL, maxL, List.zipWith_cons_cons, List.cons.injEq, this, Bool.decide_and]
      congr 1
      rw [Bool.eq_iff_iff]; simp only [decide_eq_true_eq]; unfold mx; omega
theorem leL_antisymm (a : List Int) : ∀ b, a.length = b.length → (leL a b && leL b a) = decide (a = b) := by
  induction a with
  | nil => intro b h; cases b with
    | nil => rfl
    | cons y b => simp at h
  | cons x a ih => intro b h; cases b with
    | nil => simp at h
    | cons y b =>
      have := ih b (by simpa using h)
      rw [Bool.eq_iff_iff] at this ⊢
      simp only [leL, List.cons.injEq, Bool.and_eq_true, decide_eq_true_eq] at this ⊢
      rw [← this]
      constructor
      · rintro ⟨⟨h1, h2⟩, h3, h4⟩; exact ⟨by omega, h2, h4⟩
      · rintro ⟨rfl, h2, h4⟩; exact ⟨⟨by omega, h2⟩, by omega, h4⟩
theorem vco_mono {a b : List Int} (ha : vv a = true) (hb : vv b = true) (h : leL a b = true) {q c : Int} (hc : vco a q c = true) : vco b q c = true := by
  rw [leL_iff a b (by rw [vv_length ha, vv_length hb]), decide_eq_true_eq] at h
  rw [← h, vco_max ha hb, hc]; rfl
theorem FnExactVectorMin : laws_FnExactVectorMin.Pure := by
  intro a b _ _ _ _ _ _
  apply Ev.rounds
  unfold laws_FnExactVectorMin.f
  by_cases ha : (a.length : Int) > 1048576
  · exact evIf ha (Ev.now _)
  refine evElse ha ?_
  by_cases hb : (b.length : Int) > 1048576
  · exact evIf hb (Ev.now _)
  have ha' : a.length ≤ 2000000 := by omega
  have hb' : b.length ≤ 2000000 := by omega
  have hm : (if vv a = true ∧ vv b = true then minL a b else ([] : List Int)).length ≤ 2000000 := by
    split
    · simp only [minL, List.length_zipWith]; omega
    · simp
  refine evElse hb (evBind (ev_laws_toIntS a ha') (evBind (ev_laws_toIntS b hb') (evBind (ev_spec_VectorMin a b ha' hb') (evBind (ev_laws_toIntS a ha') (evBind (ev_laws_toIntS b hb') (evBind (ev_impl_VectorMin a b ha' hb') ?_))))))
  have hM := ev_impl_VectorMin a b ha' hb'
  generalize (if vv a = true ∧ vv b = true then minL a b else ([] : List Int)) = m at hm hM ⊢
  refine evBind (ev_laws_eqIntS m m hm) (evIf (by simp) (evBind (ev_laws_toIntS a ha') (evBind (ev_laws_eqIntS a a ha') (evIf (by simp) (evBind (ev_laws_toIntS b hb') (evBind (ev_laws_eqIntS b b hb') (evIf (by simp) ?_)))))))
  refine evBind (ev_laws_markIntS a 1 ha' (by omega) (by omega)) (evBind (ev_laws_markIntS b _ hb' (by first | omega | (simp only; omega) | (simp; omega)) (by first | omega | (simp only; omega) | (simp; omega))) (evElse (by first | omega | (simp only; omega) | (simp; omega)) (evBind (ev_laws_eqIntS m m hm) ?_)))
  refine Ev.step (fun _ => rfl) (evElse (by simp) (evBind (ev_laws_markIntS m 1 hm (by omega) (by omega)) (evBind (ev_laws_heldIntS m.length 1 hm (by omega) (by omega)) (evElse (by first | omega | (simp only; omega) | (simp; omega)) (evIf (by first | rfl | simp only | simp) ?_)))))
  refine evBind (ev_laws_toIntS a ha') (evBind (ev_laws_toIntS b hb') (evBind hM (evBind (ev_laws_eqIntS m m hm) (evIf (by simp) ?_))))
  exact evBind (ev_laws_heldIntS m.length 1 hm (by omega) (by omega)) (evElse (by first | omega | (simp only; omega) | (simp; omega)) (evIf (by first | rfl | simp only | simp) (Ev.now _)))

end Go.Proofs.Ytpjbkdhehdpapaa.Pure

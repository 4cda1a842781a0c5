/- The plain side of the statement FnExactValidStamp: the printed functions answer true at every input. Conditions: none beyond the given statement's own. -/
import Derived.Test.YteloibbhcdfepaaPFnExactValidStampx1
import Derived.Test.YteloibbhcdfepaaBase
namespace Go.Proofs.Yteloibbhcdfepaa.Pure
open Go.RowKit Go.Proofs.Yteloibbhcdfepaa.PFnExactValidStamp Go.Proofs.YteloibbhcdfepaaW.PrintWords Go.Proofs.YteloibbhcdfepaaW.PrintLast Go.Proofs.Yteloibbhcdfepaa.Base
set_option linter.unusedVariables false
set_option linter.unusedSimpArgs false

def inV (x : Int) : Bool := decide (0 ≤ x ∧ x ≤ 99)
/-- A valid vector: three entries of 0 to 99. -/
def vv (l : List Int) : Bool := l.all inV && decide (l.length = 3)
theorem vv_length {l : List Int} (h : vv l = true) : l.length = 3 := by
  simp only [vv, Bool.and_eq_true, decide_eq_true_eq] at h
  exact h.2
theorem vv_form {l : List Int} (h : vv l = true) : ∃ a b c, l = [a, b, c] ∧ (0 ≤ a ∧ a ≤ 99) ∧ (0 ≤ b ∧ b ≤ 99) ∧ (0 ≤ c ∧ c ≤ 99) := by
  have hl := vv_length h
  match l, hl with
  | [a, b, c], _ =>
    simp [vv, inV] at h
    exact ⟨a, b, c, rfl, h⟩
def iota (a : Int) (n : Nat) : List Int := (List.range n).map fun i : Nat => a + (i : Int)
theorem iota_length (a : Int) (n : Nat) : (iota a n).length = n := by simp [iota]
theorem iota_succ (a : Int) (n : Nat) : iota a (n + 1) = a :: iota (a + 1) n := by
  simp only [iota, List.range_succ_eq_map, List.map_cons, List.map_map]
  congr 1
  · simp
  · apply List.map_congr_left; intro i _; simp only [Function.comp]; omega
theorem eq_spec_inRange (a lo hi : Int) : spec_inRange.f a lo hi = some (decide (lo ≤ a ∧ a ≤ hi)) := by
  unfold spec_inRange.f
  by_cases h : lo ≤ a <;> simp [h]
/-- Every entry of a is at most that of b (of equal lengths). -/
def leL : List Int → List Int → Bool
  | a :: l, b :: m => decide (a ≤ b) && leL l m
  | _, _ => true
def vle (a b : List Int) : Bool := vv a && (vv b && leL a b)
def maxL (a b : List Int) : List Int := List.zipWith mx a b
def minL (a b : List Int) : List Int := List.zipWith mn a b
def mostL (l : List Int) (m : Int) : Int := l.foldl mx m
theorem mostL_cons (a : Int) (l : List Int) (m : Int) : mostL (a :: l) m = mostL l (mx m a) := rfl
def nextS (l : List Int) (who : Int) : Int × Int := if vv l = true ∧ 0 ≤ who ∧ who ≤ 2 then (if 99 ≤ mostL l 0 then (0, 0) else (mostL l 0 + 1, who)) else (0, 0)
theorem mx_range {a b : Int} (h : 0 ≤ a ∧ a ≤ 99) (k : 0 ≤ b ∧ b ≤ 99) : 0 ≤ mx a b ∧ mx a b ≤ 99 := by unfold mx; omega
theorem mostL_range : ∀ (l : List Int) (m : Int), l.all inV = true → 0 ≤ m ∧ m ≤ 99 → 0 ≤ mostL l m ∧ mostL l m ≤ 99
  | [], m, _, hm => hm
  | a :: l, m, h, hm => by
    simp only [List.all_cons, Bool.and_eq_true] at h
    have ha : 0 ≤ a ∧ a ≤ 99 := by simpa [inV] using h.1
    exact mostL_range l (mx m a) h.2 (mx_range hm ha)
theorem vv_all {l : List Int} (h : vv l = true) : l.all inV = true := by
  simp only [vv, Bool.and_eq_true] at h
  exact h.1
theorem inV_get {l : List Int} (h : l.all inV = true) (i : Nat) (hi : i < l.length) : 0 ≤ l[i] ∧ l[i] ≤ 99 := by
  have := (List.all_eq_true.1 h) l[i] (List.getElem_mem hi)
  simpa [inV] using this
theorem eq_impl_isAuthor (a : Int) : impl_isAuthor.f a = some (decide (0 ≤ a ∧ a ≤ 2)) := by
  unfold impl_isAuthor.f
  by_cases h : 0 ≤ a
  · rw [if_pos h]
    by_cases h' : a ≤ 2
    · rw [decide_eq_true (show a < 3 by omega), decide_eq_true (⟨h, h'⟩ : 0 ≤ a ∧ a ≤ 2)]
    · rw [decide_eq_false (show ¬ a < 3 by omega), decide_eq_false (fun hh => h' hh.2)]
  · rw [if_neg h, decide_eq_false (fun hh => h hh.1)]
theorem xorOk (a b : Int) (ha : 0 ≤ a ∧ a < 4611686018427387904) (hb : 0 ≤ b ∧ b < 4611686018427387904) : 0 ≤ Go.bits .xor .i64 a b := by
  obtain ⟨x, rfl⟩ := Int.eq_ofNat_of_zero_le ha.1
  obtain ⟨y, rfl⟩ := Int.eq_ofNat_of_zero_le hb.1
  have hx : x < 2 ^ 62 := by omega
  have hy : y < 2 ^ 62 := by omega
  have hz := Nat.xor_lt_two_pow hx hy
  have e : Go.bits .xor .i64 (x : Int) (y : Int) = ((x ^^^ y : Nat) : Int) := by
    simp only [Go.bits, BitVec.ofInt_natCast, BitVec.toNat_xor, BitVec.toNat_ofNat]
    rw [Nat.mod_eq_of_lt (show x < 2 ^ IntKind.i64.bits from Nat.lt_of_lt_of_le hx (by decide)), Nat.mod_eq_of_lt (show y < 2 ^ IntKind.i64.bits from Nat.lt_of_lt_of_le hy (by decide)), IntKind.wrap_i64]
    omega
  rw [e]; omega
/-- What a reader may hold: at most 2000 bytes. -/
structure BOk (b : List Int) : Prop where
  len : b.length ≤ 2000
  byte : ∀ x ∈ b, 0 ≤ x ∧ x ≤ 255
theorem BOk.rd {b : List Int} (h : BOk b) {i : Int} (h0 : 0 ≤ i) (h1 : i < b.length) : 0 ≤ Go.Proofs.YteloibbhcdfepaaW.PrintWords.rd b i ∧ Go.Proofs.YteloibbhcdfepaaW.PrintWords.rd b i ≤ 255 := by
  obtain ⟨n, rfl⟩ := Int.eq_ofNat_of_zero_le h0
  rw [rdAt _ _ (by omega)]
  exact h.byte _ (List.getElem_mem _)
theorem wf_u8 {l : List Int} (h : ∀ x ∈ l, (Lit.int .u8 x).wf = true) : ∀ x ∈ l, 0 ≤ x ∧ x ≤ 255 := fun x hx => by
  have := h x hx
  simp [Lit.wf, IntKind.min, IntKind.max, IntKind.bits, IntKind.signed] at this
  omega
/-- A call that draws: it comes to its answer v and moves the place on from p by at most m. -/
def Draws {α : Type} (g : Nat → Option (α × Int)) (p m : Int) (P : α → Prop) : Prop := ∃ v q, Ev g (v, q) ∧ p ≤ q ∧ q ≤ p + m ∧ P v
def vst (q a : Int) : Bool := decide ((1 ≤ q ∧ q ≤ 99) ∧ 0 ≤ a ∧ a ≤ 2)
def slt (q a q' a' : Int) : Bool := decide (q < q' ∨ (q = q' ∧ a < a'))
theorem eq_laws_toStamp (a b : Int) : laws_toStamp.f a b = some (a, b) := rfl
theorem eq_spec_validStamp (a b : Int) : spec_validStamp.f a b = some (vst a b) := by
  unfold spec_validStamp.f vst
  simp only [eq_spec_inRange, Option.bind_some]
  by_cases h : 1 ≤ a ∧ a ≤ 99
  · simp only [h, decide_true, if_true, and_self, true_and]
  · simp only [h, decide_false, Bool.false_eq_true, if_false, false_and]
theorem eq_spec_ValidStamp (a b : Int) : spec_ValidStamp.f a b = some (vst a b) := by
  unfold spec_ValidStamp.f; rw [eq_spec_validStamp]; rfl
theorem eq_impl_ValidStamp (a b : Int) : impl_ValidStamp.f a b = some (vst a b) := by
  unfold impl_ValidStamp.f vst
  simp only [eq_impl_isAuthor, Option.bind_some]
  by_cases h : 1 ≤ a
  · by_cases h' : a ≤ 99
    · simp only [ge_iff_le, h, h', if_true, and_self, true_and]
    · simp only [ge_iff_le, h, h', if_true, if_false, and_false, false_and, decide_false]
  · simp only [ge_iff_le, h, if_false, false_and, decide_false]
theorem FnExactValidStamp : ∀ (x0_f0 x0_f1 : Int), ((Lit.int .i64 x0_f0).wf = true ∧ (Lit.int .i64 x0_f1).wf = true) → laws_FnExactValidStamp.f x0_f0 x0_f1 = some true := by
  intro _ _ _
  unfold laws_FnExactValidStamp.f
  simp only [eq_laws_toStamp, eq_spec_ValidStamp, eq_impl_ValidStamp, Option.bind_some, bne_self_eq_false, Bool.false_eq_true, if_false]
/-- The vector covers the stamp. -/
def vco (l : List Int) (q a : Int) : Bool := vv l && (vst q a && decide (q ≤ rd l a))

end Go.Proofs.Yteloibbhcdfepaa.Pure

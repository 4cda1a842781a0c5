/- The plain side of the statement FnExactLogVector: the printed functions answer true at every input. Conditions: none beyond the given statement's own. -/
import Derived.Test.YtomigiindmojkaaQLx19
import Derived.Test.YtomigiindmojkaaBase
namespace Go.Proofs.Ytomigiindmojkaa.Pure
open Go.RowKit Go.Proofs.Ytomigiindmojkaa.QL Go.Proofs.YtomigiindmojkaaW.PrintWords Go.Proofs.YtomigiindmojkaaW.PrintLast Go.Proofs.Ytomigiindmojkaa.Base
set_option linter.unusedVariables false
set_option linter.unusedSimpArgs false

def inV (x : Int) : Bool := decide (0 ≤ x ∧ x ≤ 99)
/-- A valid vector: three entries of 0 to 99. -/
def vv (l : List Int) : Bool := l.all inV && decide (l.length = 3)
theorem vv_length {l : List Int} (h : vv l = true) : l.length = 3 := by
  simp only [vv, Bool.and_eq_true, decide_eq_true_eq] at h
  exact h.2
theorem vv_form {l : List Int} (h : vv l = true) : ∃ a b c, l = [a, b, c] ∧ (0 ≤ a ∧ a ≤ 99) ∧ (0 ≤ b ∧ b ≤ 99) ∧ (0 ≤ c ∧ c ≤ 99) := by
  have hl := vv_length h
  match l, hl with
  | [a, b, c], _ =>
    simp [vv, inV] at h
    exact ⟨a, b, c, rfl, h⟩
def iota (a : Int) (n : Nat) : List Int := (List.range n).map fun i : Nat => a + (i : Int)
theorem iota_length (a : Int) (n : Nat) : (iota a n).length = n := by simp [iota]
theorem iota_succ (a : Int) (n : Nat) : iota a (n + 1) = a :: iota (a + 1) n := by
  simp only [iota, List.range_succ_eq_map, List.map_cons, List.map_map]
  congr 1
  · simp
  · apply List.map_congr_left; intro i _; simp only [Function.comp]; omega
theorem ev_laws_eqIntS_l0 (x0 x1 : List Int) (hn : x0.length ≤ 2000000) (hl : x0.length = x1.length) : ∀ (d i : Nat), i + d = x0.length → Ev (fun k => laws_eqIntS.l0 k x0 x1 (i : Int)) (decide (x0.drop i = x1.drop i)) := by
  intro d
  induction d with
  | zero =>
    intro i hi
    refine Ev.step (fun _ => rfl) (evElse (by omega) (evSome ?_))
    rw [List.drop_of_length_le (by omega), List.drop_of_length_le (by omega)]; simp
  | succ d ih =>
    intro i hi
    refine Ev.step (fun _ => rfl) (evIf (by omega) (evIf (by omega) (evIf (by omega) ?_)))
    rw [wrapSucc i (by omega), rdAt _ _ (by omega), rdAt _ _ (by omega), dropCons x0 i (by omega), dropCons x1 i (by omega)]
    by_cases h : x0[i] = x1[i]
    · refine evIf h (evEq (ih (i + 1) (by omega)) ?_)
      simp only [h, List.cons.injEq, true_and]
    · refine evElse h (evSome ?_)
      simp only [h, List.cons.injEq, false_and, decide_false]
theorem ev_laws_eqIntS (a b : List Int) (hn : a.length ≤ 2000000) : Ev (fun k => laws_eqIntS.f k a b) (decide (a = b)) := by
  unfold laws_eqIntS.f
  by_cases h : a.length = b.length
  · exact evIf (by omega) (evEq (ev_laws_eqIntS_l0 a b hn h a.length 0 (by omega)) (by simp))
  · refine evElse (by omega) (evSome ?_)
    rw [eq_comm, decide_eq_false_iff_not]
    intro e; exact h (by rw [e])
/-- Every entry of a is at most that of b (of equal lengths). -/
def leL : List Int → List Int → Bool
  | a :: l, b :: m => decide (a ≤ b) && leL l m
  | _, _ => true
def vle (a b : List Int) : Bool := vv a && (vv b && leL a b)
def maxL (a b : List Int) : List Int := List.zipWith mx a b
def minL (a b : List Int) : List Int := List.zipWith mn a b
def mostL (l : List Int) (m : Int) : Int := l.foldl mx m
theorem mostL_cons (a : Int) (l : List Int) (m : Int) : mostL (a :: l) m = mostL l (mx m a) := rfl
def nextS (l : List Int) (who : Int) : Int × Int := if vv l = true ∧ 0 ≤ who ∧ who ≤ 2 then (if 99 ≤ mostL l 0 then (0, 0) else (mostL l 0 + 1, who)) else (0, 0)
theorem mx_range {a b : Int} (h : 0 ≤ a ∧ a ≤ 99) (k : 0 ≤ b ∧ b ≤ 99) : 0 ≤ mx a b ∧ mx a b ≤ 99 := by unfold mx; omega
theorem mostL_range : ∀ (l : List Int) (m : Int), l.all inV = true → 0 ≤ m ∧ m ≤ 99 → 0 ≤ mostL l m ∧ mostL l m ≤ 99
  | [], m, _, hm => hm
  | a :: l, m, h, hm => by
    simp only [List.all_cons, Bool.and_eq_true] at h
    have ha : 0 ≤ a ∧ a ≤ 99 := by simpa [inV] using h.1
    exact mostL_range l (mx m a) h.2 (mx_range hm ha)
theorem vv_all {l : List Int} (h : vv l = true) : l.all inV = true := by
  simp only [vv, Bool.and_eq_true] at h
  exact h.1
theorem inV_get {l : List Int} (h : l.all inV = true) (i : Nat) (hi : i < l.length) : 0 ≤ l[i] ∧ l[i] ≤ 99 := by
  have := (List.all_eq_true.1 h) l[i] (List.getElem_mem hi)
  simpa [inV] using this
theorem ev_laws_markIntS_l0 : ∀ (d i : Nat) (x0 : List Int) (a : Int), x0.length ≤ 2000000 → i + d = x0.length → 0 ≤ a → a + d ≤ 100000000000 → Ev (fun k => laws_markIntS.l0 k x0 a (i : Int)) (a + d, x0.take i ++ iota a d) := by
  intro d
  induction d with
  | zero =>
    intro i x0 a hn hi _ _
    refine Ev.step (fun _ => rfl) (evElse (by omega) (evSome ?_))
    rw [List.take_of_length_le (by omega)]; simp [iota]
  | succ d ih =>
    intro i x0 a hn hi h0 h1
    refine Ev.step (fun _ => rfl) (evIf (by omega) (evIf (by omega) ?_))
    rw [wrapSucc i (by omega), wrapId (x := a + 1) (by omega) (by omega)]
    refine evEq (ih (i + 1) _ (a + 1) (by simpa using hn) (by simp; omega) (by omega) (by omega)) ?_
    rw [takeSucc _ i (by simp; omega), iota_succ]
    simp only [Int.toNat_natCast, List.getElem_set_self, List.take_set_of_le (Nat.le_refl i), List.append_assoc, List.singleton_append]
    congr 1; omega
theorem ev_laws_markIntS (l : List Int) (a : Int) (hn : l.length ≤ 2000000) (h0 : 0 ≤ a) (h1 : a + l.length ≤ 100000000000) : Ev (fun k => laws_markIntS.f k l a) (a + l.length, iota a l.length) :=
  evEq (ev_laws_markIntS_l0 l.length 0 l a hn (by omega) h0 h1) (by simp)
theorem ev_laws_heldIntS_l0 : ∀ (d i : Nat) (x0 : List Int) (a : Int), x0.length ≤ 2000000 → i + d = x0.length → 0 ≤ a → a + d ≤ 100000000000 → x0.drop i = iota a d → Ev (fun k => laws_heldIntS.l0 k x0 a (i : Int)) (a + d) := by
  intro d
  induction d with
  | zero =>
    intro i x0 a hn hi _ _ _
    exact Ev.step (fun _ => rfl) (evElse (by omega) (evSome (by simp)))
  | succ d ih =>
    intro i x0 a hn hi h0 h1 hd
    rw [dropCons x0 i (by omega), iota_succ] at hd
    injection hd with hd1 hd2
    refine Ev.step (fun _ => rfl) (evIf (by omega) (evIf (by omega) (evIf (by rw [rdAt _ _ (by omega)]; exact hd1) ?_)))
    rw [wrapSucc i (by omega), wrapId (x := a + 1) (by omega) (by omega)]
    exact evEq (ih (i + 1) x0 (a + 1) hn (by omega) (by omega) (by omega) hd2) (by omega)
theorem ev_laws_heldIntS (n : Nat) (a : Int) (hn : n ≤ 2000000) (h0 : 0 ≤ a) (h1 : a + n ≤ 100000000000) : Ev (fun k => laws_heldIntS.f k (iota a n) a) (a + n) :=
  ev_laws_heldIntS_l0 n 0 (iota a n) a (by rw [iota_length]; exact hn) (by rw [iota_length]; omega) h0 h1 (by simp)
theorem xorOk (a b : Int) (ha : 0 ≤ a ∧ a < 4611686018427387904) (hb : 0 ≤ b ∧ b < 4611686018427387904) : 0 ≤ Go.bits .xor .i64 a b := by
  obtain ⟨x, rfl⟩ := Int.eq_ofNat_of_zero_le ha.1
  obtain ⟨y, rfl⟩ := Int.eq_ofNat_of_zero_le hb.1
  have hx : x < 2 ^ 62 := by omega
  have hy : y < 2 ^ 62 := by omega
  have hz := Nat.xor_lt_two_pow hx hy
  have e : Go.bits .xor .i64 (x : Int) (y : Int) = ((x ^^^ y : Nat) : Int) := by
    simp only [Go.bits, BitVec.ofInt_natCast, BitVec.toNat_xor, BitVec.toNat_ofNat]
    rw [Nat.mod_eq_of_lt (show x < 2 ^ IntKind.i64.bits from Nat.lt_of_lt_of_le hx (by decide)), Nat.mod_eq_of_lt (show y < 2 ^ IntKind.i64.bits from Nat.lt_of_lt_of_le hy (by decide)), IntKind.wrap_i64]
    omega
  rw [e]; omega
/-- What a reader may hold: at most 2000 bytes. -/
structure BOk (b : List Int) : Prop where
  len : b.length ≤ 2000
  byte : ∀ x ∈ b, 0 ≤ x ∧ x ≤ 255
theorem BOk.rd {b : List Int} (h : BOk b) {i : Int} (h0 : 0 ≤ i) (h1 : i < b.length) : 0 ≤ Go.Proofs.YtomigiindmojkaaW.PrintWords.rd b i ∧ Go.Proofs.YtomigiindmojkaaW.PrintWords.rd b i ≤ 255 := by
  obtain ⟨n, rfl⟩ := Int.eq_ofNat_of_zero_le h0
  rw [rdAt _ _ (by omega)]
  exact h.byte _ (List.getElem_mem _)
theorem wf_u8 {l : List Int} (h : ∀ x ∈ l, (Lit.int .u8 x).wf = true) : ∀ x ∈ l, 0 ≤ x ∧ x ≤ 255 := fun x hx => by
  have := h x hx
  simp [Lit.wf, IntKind.min, IntKind.max, IntKind.bits, IntKind.signed] at this
  omega
/-- A call that draws: it comes to its answer v and moves the place on from p by at most m. -/
def Draws {α : Type} (g : Nat → Option (α × Int)) (p m : Int) (P : α → Prop) : Prop := ∃ v q, Ev g (v, q) ∧ p ≤ q ∧ q ≤ p + m ∧ P v
def schB (a b : Int) : Bool := decide ((a = 0 ∧ (b = 1 ∨ b = 2 ∨ b = 3)) ∨ (a = 3 ∧ b = 4) ∨ (a = 4 ∧ (b = 1 ∨ b = 3)))
theorem eq_laws_toStamp (a b : Int) : laws_toStamp.f a b = some (a, b) := rfl
theorem eq_impl_StampLess (a b c d : Int) : impl_StampLess.f a b c d = some (slt a b c d) := by
  unfold impl_StampLess.f slt
  by_cases h : a < c
  · simp [h]
  · by_cases h' : a = c <;> simp [h, h']
theorem eq_spec_stampLess (a b c d : Int) : spec_stampLess.f a b c d = some (slt a b c d) := by
  unfold spec_stampLess.f slt
  by_cases h : a < c
  · simp [h]
  · by_cases h' : a = c <;> simp [h, h']
/-- The vector covers the stamp. -/
def vco (l : List Int) (q a : Int) : Bool := vv l && (vst q a && decide (q ≤ rd l a))
theorem mostL_self (l : List Int) : ∀ m, m ≤ mostL l m := by
  induction l with
  | nil => intro m; exact Int.le_refl _
  | cons a l ih =>
    intro m
    rw [mostL_cons]
    have := ih (mx m a)
    have : m ≤ mx m a := by unfold mx; omega
    omega
theorem mostL_mem (l : List Int) : ∀ m (i : Nat) (h : i < l.length), l[i] ≤ mostL l m := by
  induction l with
  | nil => intro m i h; simp at h
  | cons a l ih =>
    intro m i h
    rw [mostL_cons]
    cases i with
    | zero =>
      have := mostL_self l (mx m a)
      have : a ≤ mx m a := by unfold mx; omega
      simp; omega
    | succ i => simpa using ih (mx m a) i (by simpa using h)
theorem nextS_some {c : List Int} {who : Int} (h : ¬ ((nextS c who).1 = 0 ∧ (nextS c who).2 = 0)) : vv c = true ∧ 0 ≤ who ∧ who ≤ 2 ∧ nextS c who = (mostL c 0 + 1, who) ∧ 0 ≤ mostL c 0 ∧ mostL c 0 < 99 := by
  unfold nextS at h ⊢
  split at h
  · rename_i hc
    split at h
    · exact absurd ⟨rfl, rfl⟩ h
    · rename_i h9
      have := mostL_range c 0 (vv_all hc.1) (by omega)
      rw [if_pos hc, if_neg h9]
      exact ⟨hc.1, hc.2.1, hc.2.2, rfl, this.1, by omega⟩
  · exact absurd ⟨rfl, rfl⟩ h
theorem vco_le {c : List Int} {q a : Int} (h : vco c q a = true) : q ≤ mostL c 0 := by
  simp only [vco, Bool.and_eq_true, decide_eq_true_eq] at h
  obtain ⟨h1, h2, h3⟩ := h
  have hl := vv_length h1
  simp only [vst, decide_eq_true_eq] at h2
  obtain ⟨n, rfl⟩ := Int.eq_ofNat_of_zero_le h2.2.1
  rw [rdAt _ _ (by omega)] at h3
  have := mostL_mem c 0 n (by omega)
  omega
theorem rd3_0 (x y z : Int) : rd [x, y, z] 0 = x := rfl
theorem rd3_1 (x y z : Int) : rd [x, y, z] 1 = y := rfl
theorem rd3_2 (x y z : Int) : rd [x, y, z] 2 = z := rfl
theorem vv_mk {x y z : Int} (hx : 0 ≤ x ∧ x ≤ 99) (hy : 0 ≤ y ∧ y ≤ 99) (hz : 0 ≤ z ∧ z ≤ 99) : vv [x, y, z] = true := by simp [vv, inV, hx, hy, hz]
theorem mn_range {a b : Int} (h : 0 ≤ a ∧ a ≤ 99) (k : 0 ≤ b ∧ b ≤ 99) : 0 ≤ mn a b ∧ mn a b ≤ 99 := by unfold mn; omega
theorem vst_at {q a : Int} (h : vst q a = true) : a = 0 ∨ a = 1 ∨ a = 2 := by
  simp only [vst, decide_eq_true_eq] at h; omega
theorem vv_max {a b : List Int} (ha : vv a = true) (hb : vv b = true) : vv (maxL a b) = true := by
  obtain ⟨a1, a2, a3, rfl, h1, h2, h3⟩ := vv_form ha
  obtain ⟨b1, b2, b3, rfl, k1, k2, k3⟩ := vv_form hb
  exact vv_mk (mx_range h1 k1) (mx_range h2 k2) (mx_range h3 k3)
theorem vv_min {a b : List Int} (ha : vv a = true) (hb : vv b = true) : vv (minL a b) = true := by
  obtain ⟨a1, a2, a3, rfl, h1, h2, h3⟩ := vv_form ha
  obtain ⟨b1, b2, b3, rfl, k1, k2, k3⟩ := vv_form hb
  exact vv_mk (mn_range h1 k1) (mn_range h2 k2) (mn_range h3 k3)
theorem le_mx (q a b : Int) : decide (q ≤ mx a b) = (decide (q ≤ a) || decide (q ≤ b)) := by
  rw [Bool.eq_iff_iff]; simp only [Bool.or_eq_true, decide_eq_true_eq]; unfold mx; omega
theorem le_mn (q a b : Int) : decide (q ≤ mn a b) = (decide (q ≤ a) && decide (q ≤ b)) := by
  rw [Bool.eq_iff_iff]; simp only [Bool.and_eq_true, decide_eq_true_eq]; unfold mn; omega
theorem vco_max {a b : List Int} (ha : vv a = true) (hb : vv b = true) (q c : Int) : vco (maxL a b) q c = (vco a q c || vco b q c) := by
  cases hs : vst q c with
  | false => simp [vco, hs]
  | true =>
    simp only [vco, vv_max ha hb, ha, hb, hs, Bool.true_and]
    obtain ⟨a1, a2, a3, rfl, _⟩ := vv_form ha
    obtain ⟨b1, b2, b3, rfl, _⟩ := vv_form hb
    rcases vst_at hs with rfl | rfl | rfl <;> exact le_mx _ _ _
theorem vco_min {a b : List Int} (ha : vv a = true) (hb : vv b = true) (q c : Int) : vco (minL a b) q c = (vco a q c && vco b q c) := by
  cases hs : vst q c with
  | false => simp [vco, hs]
  | true =>
    simp only [vco, vv_min ha hb, ha, hb, hs, Bool.true_and]
    obtain ⟨a1, a2, a3, rfl, _⟩ := vv_form ha
    obtain ⟨b1, b2, b3, rfl, _⟩ := vv_form hb
    rcases vst_at hs with rfl | rfl | rfl <;> exact le_mn _ _ _
theorem mx_comm (a b : Int) : mx a b = mx b a := by unfold mx; omega
theorem mn_comm (a b : Int) : mn a b = mn b a := by unfold mn; omega
theorem maxL_comm (a : List Int) : ∀ b, maxL a b = maxL b a := by
  induction a with
  | nil => intro b; cases b <;> rfl
  | cons x a ih => intro b; cases b with
    | nil => rfl
    | cons y b => simp only [maxL, List.zipWith_cons_cons, mx_comm x y]; exact congrArg _ (ih b)
theorem minL_comm (a : List Int) : ∀ b, minL a b = minL b a := by
  induction a with
  | nil => intro b; cases b <;> rfl
  | cons x a ih => intro b; cases b with
    | nil => rfl
    | cons y b => simp only [minL, List.zipWith_cons_cons, mn_comm x y]; exact congrArg _ (ih b)
theorem leL_min_max (a : List Int) : ∀ b, leL (minL a b) (maxL a b) = true := by
  induction a with
  | nil => intro b; cases b <;> rfl
  | cons x a ih => intro b; cases b with
    | nil => rfl
    | cons y b =>
      simp only [minL, maxL, List.zipWith_cons_cons, leL, Bool.and_eq_true, decide_eq_true_eq]
      exact ⟨by unfold mn mx; omega, ih b⟩
theorem leL_iff (a : List Int) : ∀ b, a.length = b.length → leL a b = decide (maxL a b = b) := by
  induction a with
  | nil => intro b h; cases b with
    | nil => rfl
    | cons y b => simp at h
  | cons x a ih => intro b h; cases b with
    | nil => simp at h
    | cons y b =>
      have := ih b (by simpa using h)
      simp only [leL, maxL, List.zipWith_cons_cons, List.cons.injEq, this, Bool.decide_and]
      congr 1
      rw [Bool.eq_iff_iff]; simp only [decide_eq_true_eq]; unfold mx; omega
theorem leL_antisymm (a : List Int) : ∀ b, a.length = b.length → (leL a b && leL b a) = decide (a = b) := by
  induction a with
  | nil => intro b h; cases b with
    | nil => rfl
    | cons y b => simp at h
  | cons x a ih => intro b h; cases b with
    | nil => simp at h
    | cons y b =>
      have := ih b (by simpa using h)
      rw [Bool.eq_iff_iff] at this ⊢
      simp only [leL, List.cons.injEq, Bool.and_eq_true, decide_eq_true_eq] at this ⊢
      rw [← this]
      constructor
      · rintro ⟨⟨h1, h2⟩, h3, h4⟩; exact ⟨by omega, h2, h4⟩
      · rintro ⟨rfl, h2, h4⟩; exact ⟨⟨by omega, h2⟩, by omega, h4⟩
theorem vco_mono {a b : List Int} (ha : vv a = true) (hb : vv b = true) (h : leL a b = true) {q c : Int} (hc : vco a q c = true) : vco b q c = true := by
  rw [leL_iff a b (by rw [vv_length ha, vv_length hb]), decide_eq_true_eq] at h
  rw [← h, vco_max ha hb, hc]; rfl
theorem strOfNums_app (xs ys : List Int) : strOfNums xs ++ strOfNums ys = strOfNums (xs ++ ys) := by
  apply ByteArray.ext
  apply Array.ext'
  simp [strOfNums]
theorem strOfNums_list (xs : List Int) : (strOfNums xs).toList = xs.map fun n => UInt8.ofNat n.toNat := by
  rw [ByteArray.toList_eq]; rfl
/-- A number of 0 to 99 in decimal, as bytes. -/
def dec (q : Int) : List Int := if q < 10 then [48 + q] else [48 + q / 10, 48 + q % 10]
/-- A valid stamp's text, as bytes. -/
def encL (q a : Int) : List Int := dec q ++ [97 + a]
theorem dec_length (q : Int) : 1 ≤ (dec q).length ∧ (dec q).length ≤ 2 := by unfold dec; split <;> simp
/-- The text of a stamp, valid or zero, else the empty text. -/
def encS (q a : Int) : ByteArray := if vst q a = true then strOfNums (encL q a) else if q = 0 ∧ a = 0 then ⟨#[45]⟩ else ⟨#[]⟩
theorem encS_size (q a : Int) : (encS q a).size ≤ 3 := by
  unfold encS
  split
  · rw [strOfNums_size]; have := dec_length q; simp [encL]; omega
  · split
    · decide
    · decide
theorem byteBack (x : UInt8) (n : Int) (h : n = (x.toNat : Int)) : UInt8.ofNat n.toNat = x := by
  subst h; simp
/-- One digit; two digits without a leading zero. -/
def num1 (x : UInt8) : Option Int := if 48 ≤ (x.toNat : Int) ∧ (x.toNat : Int) ≤ 57 then some ((x.toNat : Int) - 48) else none
def num2 (x y : UInt8) : Option Int := if (49 ≤ (x.toNat : Int) ∧ (x.toNat : Int) ≤ 57) ∧ 48 ≤ (y.toNat : Int) ∧ (y.toNat : Int) ≤ 57 then some (((x.toNat : Int) - 48) * 10 + ((y.toNat : Int) - 48)) else none
theorem bt1 (x : UInt8) : bt ⟨#[x]⟩ 0 = (x.toNat : Int) := (bt_at ⟨#[x]⟩ 0 (show (0 : Nat) < 1 by omega)).symm
theorem sz1 (x : UInt8) : ((⟨#[x]⟩ : ByteArray).size : Int) = 1 := rfl
theorem sz2 (x y : UInt8) : ((⟨#[x, y]⟩ : ByteArray).size : Int) = 2 := rfl
theorem w0 : wrap64 0 = 0 := wrapId (by omega) (by omega)
theorem w01 : wrap64 (0 + 1) = 1 := wrapId (by omega) (by omega)
theorem w11 : wrap64 (1 + 1) = 2 := wrapId (by omega) (by omega)
theorem bt2_0 (x y : UInt8) : bt ⟨#[x, y]⟩ 0 = (x.toNat : Int) := (bt_at ⟨#[x, y]⟩ 0 (show (0 : Nat) < 2 by omega)).symm
theorem bt2_1 (x y : UInt8) : bt ⟨#[x, y]⟩ 1 = (y.toNat : Int) := (bt_at ⟨#[x, y]⟩ 1 (show (1 : Nat) < 2 by omega)).symm
/-- What decoding a text gives: the stamp and whether it is one. -/
def decS : List UInt8 → Int × Int × Bool
  | [c] => if c = 45 then (0, 0, true) else (0, 0, false)
  | [x, c] => match num1 x with | some n => if vst n ((c.toNat : Int) - 97) = true then (n, (c.toNat : Int) - 97, true) else (0, 0, false) | none => (0, 0, false)
  | [x, y, c] => match num2 x y with | some n => if vst n ((c.toNat : Int) - 97) = true then (n, (c.toNat : Int) - 97, true) else (0, 0, false) | none => (0, 0, false)
  | _ => (0, 0, false)
theorem decS_1 (c : UInt8) : decS [c] = if c = 45 then (0, 0, true) else (0, 0, false) := rfl
theorem decS_2 (x c : UInt8) : decS [x, c] = match num1 x with | some n => if vst n ((c.toNat : Int) - 97) = true then (n, (c.toNat : Int) - 97, true) else (0, 0, false) | none => (0, 0, false) := rfl
theorem decS_3 (x y c : UInt8) : decS [x, y, c] = match num2 x y with | some n => if vst n ((c.toNat : Int) - 97) = true then (n, (c.toNat : Int) - 97, true) else (0, 0, false) | none => (0, 0, false) := rfl
theorem wrapByte (c : UInt8) : wrap64 (wrap64 (c.toNat : Int) - 97) = (c.toNat : Int) - 97 := by
  have := c.toNat_lt
  rw [wrapId (x := (c.toNat : Int)) (by omega) (by omega), wrapId (by omega) (by omega)]
theorem bt3_2 (x y z : UInt8) : bt ⟨#[x, y, z]⟩ 2 = (z.toNat : Int) := (bt_at ⟨#[x, y, z]⟩ 2 (show (2 : Nat) < 3 by omega)).symm
theorem ext2 (x c : UInt8) : (⟨#[x, c]⟩ : ByteArray).extract 0 1 = ⟨#[x]⟩ := by apply ByteArray.ext; simp
theorem ext3 (x y c : UInt8) : (⟨#[x, y, c]⟩ : ByteArray).extract 0 2 = ⟨#[x, y]⟩ := by apply ByteArray.ext; simp
theorem encS_none (a : Int) : encS (-1) a = ⟨#[]⟩ := by
  unfold encS; rw [if_neg (by simp [vst]), if_neg (by omega)]
theorem encS_bad {q a : Int} (h : ¬ vst q a = true) : (encS q a).size ≤ 1 := by
  unfold encS; rw [if_neg h]; split <;> decide
theorem encS_one {x c : UInt8} {n : Int} (hx : num1 x = some n) (h : vst n ((c.toNat : Int) - 97) = true) : (encS n ((c.toNat : Int) - 97)).toList = [x, c] := by
  unfold encS
  rw [if_pos h, strOfNums_list]
  unfold num1 at hx
  split at hx
  · injection hx with hx
    subst hx
    rw [encL, dec, if_pos (by omega)]
    simp only [List.cons_append, List.nil_append, List.map_cons, List.map_nil]
    rw [byteBack x _ (by omega), byteBack c _ (by omega)]
  · cases hx
theorem encS_two {x y c : UInt8} {n : Int} (hx : num2 x y = some n) (h : vst n ((c.toNat : Int) - 97) = true) : (encS n ((c.toNat : Int) - 97)).toList = [x, y, c] := by
  unfold encS
  rw [if_pos h, strOfNums_list]
  unfold num2 at hx
  split at hx
  · rename_i hd
    injection hx with hx
    subst hx
    rw [encL, dec, if_neg (by omega)]
    simp only [List.cons_append, List.nil_append, List.map_cons, List.map_nil]
    rw [byteBack x _ (by omega), byteBack y _ (by omega), byteBack c _ (by omega)]
  · cases hx
theorem list_size {s : ByteArray} {l : List UInt8} (h : s.toList = l) : s.size = l.length := by
  rw [← h, ByteArray.toList_eq]; rfl
theorem eq_spec_validOp (i0 i1 kd t0 t1 a0 a1 n0 n1 v : Int) (en : Bool) (tx : ByteArray) (hn : tx.size ≤ 9223372036854775807) : spec_validOp.f i0 i1 kd t0 t1 a0 a1 n0 n1 v en tx = some (vopB i0 i1 kd t0 t1 a0 a1 n0 n1 v en tx) := if_pos hn
theorem eq_impl_ValidOp (i0 i1 kd t0 t1 a0 a1 n0 n1 v : Int) (en : Bool) (tx : ByteArray) (hn : tx.size ≤ 9223372036854775807) : impl_ValidOp.f i0 i1 kd t0 t1 a0 a1 n0 n1 v en tx = some (vopB i0 i1 kd t0 t1 a0 a1 n0 n1 v en tx) := if_pos hn
theorem eq_laws_toOp (i0 i1 kd t0 t1 a0 a1 n0 n1 v : Int) (en : Bool) (tx : ByteArray) : laws_toOp.f i0 i1 kd t0 t1 a0 a1 n0 n1 v en tx = some (i0, i1, kd, t0, t1, a0, a1, n0, n1, v, en, tx) := rfl
theorem eq_laws_szOp (i0 i1 kd t0 t1 a0 a1 n0 n1 v : Int) (en : Bool) (tx : ByteArray) (b : Int) : laws_szOp.f i0 i1 kd t0 t1 a0 a1 n0 n1 v en tx b = some (if wrap64 (b - (tx.size : Int)) < 0 then -1 else wrap64 (b - (tx.size : Int))) := by
  unfold laws_szOp.f
  split <;> rfl
theorem subW {b n : Int} (h0 : 0 ≤ b) (h1 : b ≤ 4611686018427387904) (h2 : 0 ≤ n) (h3 : n ≤ 9223372036854775807) : wrap64 (b - n) = b - n := wrapId (by omega) (by omega)
theorem nat1 (i : Nat) (h : i < 4611686018427387904) : wrap64 ((i : Int) + 1) = ((i + 1 : Nat) : Int) := wrapSucc i h
theorem rd_lop (l : List S25) (i : Nat) (h : i < l.length) : rd_T25 l (i : Int) = l[i] := by simp [rd_T25, h]
theorem ev_laws_szOpS_l (l : List S25) (hn : l.length ≤ 4611686018427387900) (ht : ∀ x ∈ l, x.f7.size ≤ 9223372036854775807) : ∀ (d i : Nat) (b : Int), i + d = l.length → 0 ≤ b → b ≤ 1048576 → ∃ r, Ev (fun k => laws_szOpS.l0 k l b (i : Int)) r ∧ (0 ≤ r → r ≤ b ∧ ∀ x ∈ l.drop i, (x.f7.size : Int) ≤ b) := by
  intro d
  induction d with
  | zero =>
    intro i b hi h0 h1
    refine ⟨b, Ev.step (fun _ => rfl) (evElse (by omega) (Ev.now _)), fun _ => ⟨Int.le_refl _, ?_⟩⟩
    rw [List.drop_of_length_le (by omega)]
    exact fun x hx => absurd hx (by simp)
  | succ d ih =>
    intro i b hi h0 h1
    have hl : i < l.length := by omega
    have hs := ht (l[i]) (List.getElem_mem hl)
    by_cases hb : b - ((l[i]).f7.size : Int) < 0
    · refine ⟨-1, Ev.step (fun _ => rfl) (evIf (by omega) (evIf (by omega) (evPut (a := -1) ?_ (evIf (by omega) (Ev.now _))))), fun h => absurd h (by omega)⟩
      rw [rd_lop l i hl, eq_laws_szOp, subW h0 (by omega) (by omega) (by omega), if_pos hb]
    · obtain ⟨r, e, k⟩ := ih (i + 1) (b - ((l[i]).f7.size : Int)) (by omega) (by omega) (by omega)
      refine ⟨r, Ev.step (fun _ => rfl) (evIf (by omega) (evIf (by omega) (evPut (a := b - ((l[i]).f7.size : Int)) ?_ (evElse hb ?_)))), fun h => ?_⟩
      · rw [rd_lop l i hl, eq_laws_szOp, subW h0 (by omega) (by omega) (by omega), if_neg hb]
      · rw [nat1 i (by omega)]; exact e
      · obtain ⟨k1, k2⟩ := k h
        refine ⟨by omega, fun x hx => ?_⟩
        rw [dropCons l i hl] at hx
        rcases List.mem_cons.mp hx with rfl | hx
        · omega
        · have := k2 x hx; omega
theorem ev_laws_szOpS (l : List S25) (hn : l.length ≤ 9223372036854775807) (ht : ∀ x ∈ l, x.f7.size ≤ 9223372036854775807) (b : Int) (h0 : 0 ≤ b) (h1 : b ≤ 1048576) : ∃ r, Ev (fun k => laws_szOpS.f k l b) r ∧ (0 ≤ r → r ≤ b ∧ (l.length : Int) ≤ b ∧ ∀ x ∈ l, (x.f7.size : Int) ≤ b) := by
  unfold laws_szOpS.f
  rw [subW h0 (by omega) (by omega) (by omega)]
  by_cases h : b - (l.length : Int) < 0
  · exact ⟨-1, evIf h (Ev.now _), fun h => absurd h (by omega)⟩
  · obtain ⟨r, e, k⟩ := ev_laws_szOpS_l l (by omega) ht l.length 0 (b - (l.length : Int)) (by omega) (by omega) (by omega)
    refine ⟨r, evElse h e, fun h => ?_⟩
    obtain ⟨k1, k2⟩ := k h
    exact ⟨by omega, by omega, fun x hx => by have := k2 x hx; omega⟩
/-- The conversion of an operation. -/
def cvOp (x : S25) : S30 := ⟨⟨x.f0.f0, x.f0.f1⟩, x.f1, ⟨x.f2.f0, x.f2.f1⟩, ⟨x.f3.f0, x.f3.f1⟩, ⟨x.f4.f0, x.f4.f1⟩, x.f5, x.f6, x.f7⟩
theorem ev_laws_toOpS_l (l : List S25) (hn : l.length ≤ 2706490160679) : ∀ (d i : Nat) (m : List S30), i + d = l.length → m.length = l.length → m.take i = (l.take i).map cvOp → Ev (fun k => laws_toOpS.l0 k l m (i : Int)) (l.map cvOp) := by
  intro d
  induction d with
  | zero =>
    intro i m hi hm ht
    refine Ev.step (fun _ => rfl) (evElse (by omega) (evSome ?_))
    rw [List.take_of_length_le (by omega), List.take_of_length_le (by omega)] at ht
    exact ht
  | succ d ih =>
    intro i m hi hm ht
    have hl : i < l.length := by omega
    refine Ev.step (fun _ => rfl) (evIf (by omega) (evIf (by omega) (evPut (eq_laws_toOp _ _ _ _ _ _ _ _ _ _ _ _) (evIf (by omega) ?_))))
    rw [nat1 i (by omega), rd_lop l i hl]
    refine ih (i + 1) _ (by omega) (by rw [List.length_set]; exact hm) ?_
    rw [takeSucc _ i (by rw [List.length_set]; omega), takeSucc l i hl, List.map_append, List.map_singleton, ← ht]
    congr 1
    · rw [Int.toNat_natCast, List.take_set_of_le (Nat.le_refl i)]
    · simp [cvOp]
theorem ev_laws_toOpS (l : List S25) (hn : l.length ≤ 2706490160679) : Ev (fun k => laws_toOpS.f k l) (l.map cvOp) := by
  unfold laws_toOpS.f
  refine evIf (by omega) (evIf (by omega) ?_)
  exact ev_laws_toOpS_l l hn l.length 0 _ (by omega) (by simp) (by simp)
theorem eq_laws_eqOp (a0 a1 a2 a3 a4 a5 a6 a7 a8 a9 : Int) (a10 : Bool) (a11 : ByteArray) : laws_eqOp.f a0 a1 a2 a3 a4 a5 a6 a7 a8 a9 a10 a11 a0 a1 a2 a3 a4 a5 a6 a7 a8 a9 a10 a11 = some true := by
  unfold laws_eqOp.f
  simp [opB, stB]
theorem ev_laws_eqOpS_l (l : List S30) (hn : l.length ≤ 4611686018427387900) : ∀ (d i : Nat), i + d = l.length → Ev (fun k => laws_eqOpS.l0 k l l (i : Int)) true := by
  intro d
  induction d with
  | zero =>
    intro i hi
    exact Ev.step (fun _ => rfl) (evElse (by omega) (Ev.now _))
  | succ d ih =>
    intro i hi
    refine Ev.step (fun _ => rfl) (evIf (by omega) (evIf (by omega) (evIf (by omega) (evPut (eq_laws_eqOp _ _ _ _ _ _ _ _ _ _ _ _) (evIf rfl ?_)))))
    rw [nat1 i (by omega)]
    exact ih (i + 1) (by omega)
theorem ev_laws_eqOpS (l : List S30) (hn : l.length ≤ 4611686018427387900) : Ev (fun k => laws_eqOpS.f k l l) true := by
  unfold laws_eqOpS.f
  exact evIf rfl (ev_laws_eqOpS_l l hn l.length 0 (by omega))
theorem eq_spec_stampLessL (a b c d : Int) : spec_stampLess.f a b c d = some (slt a b c d) := mq_spec_stampLess a b c d
theorem rd_iop (l : List S30) (i : Nat) (h : i < l.length) : rd_T30 l (i : Int) = l[i] := by simp [rd_T30, h]
def opvB (x : S30) : Bool := vopB x.f0.f0 x.f0.f1 x.f1 x.f2.f0 x.f2.f1 x.f3.f0 x.f3.f1 x.f4.f0 x.f4.f1 x.f5 x.f6 x.f7
/-- Each operation's ID is below the next one's. -/
def chB : List S30 → Bool
  | [] => true
  | [_] => true
  | x :: y :: r => slt x.f0.f0 x.f0.f1 y.f0.f0 y.f0.f1 && chB (y :: r)
/-- A valid log. -/
def lgB (l : List S30) : Bool := l.all opvB && (chB l && decide ((l.length : Int) ≤ 40))
theorem chB_end (l : List S30) (i : Nat) (h : l.length ≤ i) : chB (l.drop (i - 1)) = true := by
  by_cases h0 : l.length ≤ i - 1
  · rw [List.drop_of_length_le h0]; rfl
  · rw [dropCons l (i - 1) (by omega), List.drop_of_length_le (by omega)]; rfl
theorem chB_step (l : List S30) (i : Nat) (h0 : 0 < i) (h : i < l.length) : chB (l.drop (i - 1)) = (slt (l[i - 1]).f0.f0 (l[i - 1]).f0.f1 (l[i]).f0.f0 (l[i]).f0.f1 && chB (l.drop (i + 1 - 1))) := by
  have e : i - 1 + 1 = i := by omega
  rw [dropCons l (i - 1) (by omega), show i + 1 - 1 = i from by omega]
  simp only [e]
  rw [dropCons l i h]
  rfl
theorem ev_spec_validLog_l (l : List S30) (hn : l.length ≤ 4611686018427387900) (ht : ∀ x ∈ l, x.f7.size ≤ 9223372036854775807) : ∀ (d i : Nat), i + d = l.length → Ev (fun k => spec_validLog.l0 k l (i : Int)) ((l.drop i).all opvB && (chB (l.drop (i - 1)) && decide ((l.length : Int) ≤ 40))) := by
  intro d
  induction d with
  | zero =>
    intro i hi
    refine Ev.step (fun _ => rfl) (evElse (by omega) (evSome ?_))
    rw [List.drop_of_length_le (by omega), chB_end l i (by omega)]; rfl
  | succ d ih =>
    intro i hi
    have hl : i < l.length := by omega
    have hs := ht (l[i]) (List.getElem_mem hl)
    have hk := ih (i + 1) (by omega)
    refine Ev.step (fun _ => rfl) (evIf (by omega) (evIf (by omega) ?_))
    rw [rd_iop l i hl, nat1 i (by omega), dropCons l i hl, List.all_cons]
    refine evPut (a := opvB l[i]) (eq_spec_validOp _ _ _ _ _ _ _ _ _ _ _ _ hs) ?_
    cases h : opvB l[i] with
    | false => exact evElse (by simp) (evSome (by simp))
    | true =>
      refine evIf rfl ?_
      rw [Bool.true_and]
      by_cases h0 : 0 < i
      · have e : wrap64 ((i : Int) - 1) = ((i - 1 : Nat) : Int) := by rw [wrapId (by omega) (by omega)]; omega
        rw [e]
        refine evIf (by omega) (evIf (by omega) (evIf (by omega) ?_))
        rw [rd_iop l (i - 1) (by omega)]
        refine evPut (eq_spec_stampLessL _ _ _ _) ?_
        rw [chB_step l i h0 hl]
        cases h' : slt (l[i - 1]).f0.f0 (l[i - 1]).f0.f1 (l[i]).f0.f0 (l[i]).f0.f1 with
        | false => exact evElse (by simp) (evSome (by simp))
        | true => exact evIf rfl (evEq hk (by rw [Bool.true_and]))
      · obtain rfl : i = 0 := by omega
        exact evElse (by omega) (evEq hk (by rfl))
theorem ev_spec_validLog (l : List S30) (hn : l.length ≤ 4611686018427387900) (ht : ∀ x ∈ l, x.f7.size ≤ 9223372036854775807) : Ev (fun k => spec_validLog.f k l) (lgB l) := by
  unfold spec_validLog.f
  exact ev_spec_validLog_l l hn ht l.length 0 (by omega)
theorem ev_impl_ValidLog_l (l : List S30) (hn : l.length ≤ 4611686018427387900) (ht : ∀ x ∈ l, x.f7.size ≤ 9223372036854775807) : ∀ (d i : Nat), i + d = l.length → Ev (fun k => impl_ValidLog.l0 k l l (l.length : Int) (i : Int)) ((l.drop i).all opvB && (chB (l.drop (i - 1)) && decide ((l.length : Int) ≤ 40))) := by
  intro d
  induction d with
  | zero =>
    intro i hi
    refine Ev.step (fun _ => rfl) (evElse (by omega) (evSome ?_))
    rw [List.drop_of_length_le (by omega), chB_end l i (by omega)]; rfl
  | succ d ih =>
    intro i hi
    have hl : i < l.length := by omega
    have hs := ht (l[i]) (List.getElem_mem hl)
    have hk := ih (i + 1) (by omega)
    refine Ev.step (fun _ => rfl) (evIf (by omega) (evIf (by omega) (evIf (by omega) ?_)))
    rw [rd_iop l i hl, nat1 i (by omega), dropCons l i hl, List.all_cons]
    refine evPut (a := opvB l[i]) (eq_impl_ValidOp _ _ _ _ _ _ _ _ _ _ _ _ hs) ?_
    cases h : opvB l[i] with
    | false => exact evElse (by simp) (evSome (by simp))
    | true =>
      refine evIf rfl ?_
      rw [Bool.true_and]
      by_cases h0 : 0 < i
      · have e : wrap64 ((i : Int) - 1) = ((i - 1 : Nat) : Int) := by rw [wrapId (by omega) (by omega)]; omega
        rw [e]
        refine evIf (by omega) (evIf (by omega) (evIf (by omega) ?_))
        rw [rd_iop l (i - 1) (by omega)]
        refine evPut (mq_impl_StampLess _ _ _ _) ?_
        rw [chB_step l i h0 hl]
        cases h' : slt (l[i - 1]).f0.f0 (l[i - 1]).f0.f1 (l[i]).f0.f0 (l[i]).f0.f1 with
        | false => exact evElse (by simp) (evSome (by simp))
        | true => exact evIf rfl (evEq hk (by rw [Bool.true_and]))
      · obtain rfl : i = 0 := by omega
        exact evElse (by omega) (evEq hk (by rfl))
theorem ev_impl_ValidLog (l : List S30) (hn : l.length ≤ 4611686018427387900) (ht : ∀ x ∈ l, x.f7.size ≤ 9223372036854775807) : Ev (fun k => impl_ValidLog.f k l) (lgB l) := by
  unfold impl_ValidLog.f
  exact ev_impl_ValidLog_l l hn ht l.length 0 (by omega)
theorem evUniq {α : Type} {f : Nat → Option α} {a b : α} (h : Ev f a) (k : Ev f b) : a = b := by
  obtain ⟨m, h⟩ := h
  obtain ⟨n, k⟩ := k
  have h1 := h (m + n) (by omega)
  rw [k (m + n) (by omega)] at h1
  exact (Option.some.inj h1).symm
theorem ev_laws_markText_l : ∀ (m : Nat) (n : Int) (s : ByteArray), 0 ≤ n → n < 9223372036854775808 → n < 10 ^ m → s.size + m ≤ 1000 → ∃ r, Ev (fun k => laws_markText.l0 k n s) r := by
  intro m
  induction m with
  | zero =>
    intro n s h0 _ h1 h2
    have h1' : n < 1 := h1
    exact ⟨_, Ev.step (fun _ => rfl) (evElse (by omega) (evIf (by omega) (Ev.now _)))⟩
  | succ m ih =>
    intro n s h0 h3 h1 h2
    by_cases h : n > 0
    · have h1' : n < 10 ^ m * 10 := by rw [← Int.pow_succ]; exact h1
      have e1 : wrap64 (Int.tdiv n 10) = n / 10 := by rw [Int.tdiv_eq_ediv_of_nonneg h0, wrapId (by omega) (by omega)]
      generalize (10 : Int) ^ m = p at ih h1'
      obtain ⟨r, er⟩ := ih (n / 10) (strOfNums [wrap64 (48 + Int.tmod n 10) % 256] ++ s) (by omega) (by omega) (by omega) (by rw [ByteArray.size_append, strOfNums_size]; simp only [List.length_singleton]; omega)
      refine ⟨r, Ev.step (fun _ => rfl) (evIf h (evPut rfl (evIf (by rw [strOfNums_size]; simp only [List.length_singleton]; omega) ?_)))⟩
      rw [e1]
      exact er
    · exact ⟨_, Ev.step (fun _ => rfl) (evElse h (evIf (by omega) (Ev.now _)))⟩
theorem ev_laws_markText (n : Int) (h0 : 0 ≤ n) (h1 : n ≤ 100000000012) : ∃ r, Ev (fun k => laws_markText.f k n) r := by
  unfold laws_markText.f
  by_cases h : n ≤ 0
  · exact ⟨_, evIf h (Ev.now _)⟩
  · obtain ⟨r, er⟩ := ev_laws_markText_l 19 n ⟨#[]⟩ h0 (by omega) (by omega) (by decide)
    exact ⟨r, evElse h er⟩
def mkS (a : Int) (s : ByteArray) : S30 := (⟨⟨a, (a + 1)⟩, (a + 2), ⟨(a + 3), (a + 4)⟩, ⟨(a + 5), (a + 6)⟩, ⟨(a + 7), (a + 8)⟩, (a + 9), (Int.tmod (a + 10) 3 == 0), s⟩ : S30)
/-- The elements are marked from a on. -/
def MK : Int → List S30 → Prop
  | _, [] => True
  | a, x :: r => (∃ s, Ev (fun k => laws_markText.f k (a + 11)) s ∧ x = mkS a s) ∧ MK (a + 12) r
theorem rdset (l : List S30) (i : Nat) (h : i < l.length) (x : S30) : rd_T30 (l.set i x) (i : Int) = x := by simp [rd_T30, h]
set_option maxHeartbeats 4000000 in
theorem ev_laws_markOpS_l : ∀ (d i : Nat) (l : List S30) (a : Int), l.length ≤ 4000000 → i + d = l.length → 0 ≤ a → a + 12 * d ≤ 100000000000 → ∃ m, Ev (fun k => laws_markOpS.l0 k l a (i : Int)) (a + 12 * d, l.take i ++ m) ∧ m.length = d ∧ MK a m := by
  intro d
  induction d with
  | zero =>
    intro i l a hn hi _ _
    refine ⟨[], Ev.step (fun _ => rfl) (evElse (by omega) (evSome ?_)), rfl, trivial⟩
    rw [List.take_of_length_le (by omega)]; simp
  | succ d ih =>
    intro i l a hn hi h0 h1
    have hl : i < l.length := by omega
    obtain ⟨s, es⟩ := ev_laws_markText (a + 11) (by omega) (by omega)
    have e1 : wrap64 (a + 1) = a + 1 := (wrapId (x := a + 1) (by omega) (by omega)).trans (by omega)
    have e2 : wrap64 (a + 1 + 1) = a + 2 := (wrapId (x := a + 1 + 1) (by omega) (by omega)).trans (by omega)
    have e3 : wrap64 (a + 2 + 1) = a + 3 := (wrapId (x := a + 2 + 1) (by omega) (by omega)).trans (by omega)
    have e4 : wrap64 (a + 3 + 1) = a + 4 := (wrapId (x := a + 3 + 1) (by omega) (by omega)).trans (by omega)
    have e5 : wrap64 (a + 4 + 1) = a + 5 := (wrapId (x := a + 4 + 1) (by omega) (by omega)).trans (by omega)
    have e6 : wrap64 (a + 5 + 1) = a + 6 := (wrapId (x := a + 5 + 1) (by omega) (by omega)).trans (by omega)
    have e7 : wrap64 (a + 6 + 1) = a + 7 := (wrapId (x := a + 6 + 1) (by omega) (by omega)).trans (by omega)
    have e8 : wrap64 (a + 7 + 1) = a + 8 := (wrapId (x := a + 7 + 1) (by omega) (by omega)).trans (by omega)
    have e9 : wrap64 (a + 8 + 1) = a + 9 := (wrapId (x := a + 8 + 1) (by omega) (by omega)).trans (by omega)
    have e10 : wrap64 (a + 9 + 1) = a + 10 := (wrapId (x := a + 9 + 1) (by omega) (by omega)).trans (by omega)
    have e11 : wrap64 (a + 10 + 1) = a + 11 := (wrapId (x := a + 10 + 1) (by omega) (by omega)).trans (by omega)
    have e12 : wrap64 (a + 11 + 1) = a + 12 := (wrapId (x := a + 11 + 1) (by omega) (by omega)).trans (by omega)
    obtain ⟨m, em, ml, mk⟩ := ih (i + 1) (l.set i (mkS a s)) (a + 12) (by rw [List.length_set]; exact hn) (by rw [List.length_set]; omega) (by omega) (by omega)
    refine ⟨mkS a s :: m, Ev.step (fun _ => rfl) (evIf (by omega) (evIf (by omega) ?_)), by simp [ml], ⟨s, es, rfl⟩, mk⟩
    simp only [e1, e2, e3, e4, e5, e6, e7, e8, e9, e10, e11, e12, nat1 i (by omega : i < 4611686018427387904)]
    refine evPut (a := l.set i (⟨⟨a, (rd_T30 l i).f0.f1⟩, (rd_T30 l i).f1, ⟨(rd_T30 l i).f2.f0, (rd_T30 l i).f2.f1⟩, ⟨(rd_T30 l i).f3.f0, (rd_T30 l i).f3.f1⟩, ⟨(rd_T30 l i).f4.f0, (rd_T30 l i).f4.f1⟩, (rd_T30 l i).f5, (rd_T30 l i).f6, (rd_T30 l i).f7⟩ : S30)) (by simp only [rdset l i hl, Int.toNat_natCast, List.set_set]) ?_
    refine evPut (a := l.set i (⟨⟨a, (a + 1)⟩, (rd_T30 l i).f1, ⟨(rd_T30 l i).f2.f0, (rd_T30 l i).f2.f1⟩, ⟨(rd_T30 l i).f3.f0, (rd_T30 l i).f3.f1⟩, ⟨(rd_T30 l i).f4.f0, (rd_T30 l i).f4.f1⟩, (rd_T30 l i).f5, (rd_T30 l i).f6, (rd_T30 l i).f7⟩ : S30)) (by simp only [rdset l i hl, Int.toNat_natCast, List.set_set]) ?_
    refine evPut (a := l.set i (⟨⟨a, (a + 1)⟩, (a + 2), ⟨(rd_T30 l i).f2.f0, (rd_T30 l i).f2.f1⟩, ⟨(rd_T30 l i).f3.f0, (rd_T30 l i).f3.f1⟩, ⟨(rd_T30 l i).f4.f0, (rd_T30 l i).f4.f1⟩, (rd_T30 l i).f5, (rd_T30 l i).f6, (rd_T30 l i).f7⟩ : S30)) (by simp only [rdset l i hl, Int.toNat_natCast, List.set_set]) ?_
    refine evPut (a := l.set i (⟨⟨a, (a + 1)⟩, (a + 2), ⟨(a + 3), (rd_T30 l i).f2.f1⟩, ⟨(rd_T30 l i).f3.f0, (rd_T30 l i).f3.f1⟩, ⟨(rd_T30 l i).f4.f0, (rd_T30 l i).f4.f1⟩, (rd_T30 l i).f5, (rd_T30 l i).f6, (rd_T30 l i).f7⟩ : S30)) (by simp only [rdset l i hl, Int.toNat_natCast, List.set_set]) ?_
    refine evPut (a := l.set i (⟨⟨a, (a + 1)⟩, (a + 2), ⟨(a + 3), (a + 4)⟩, ⟨(rd_T30 l i).f3.f0, (rd_T30 l i).f3.f1⟩, ⟨(rd_T30 l i).f4.f0, (rd_T30 l i).f4.f1⟩, (rd_T30 l i).f5, (rd_T30 l i).f6, (rd_T30 l i).f7⟩ : S30)) (by simp only [rdset l i hl, Int.toNat_natCast, List.set_set]) ?_
    refine evPut (a := l.set i (⟨⟨a, (a + 1)⟩, (a + 2), ⟨(a + 3), (a + 4)⟩, ⟨(a + 5), (rd_T30 l i).f3.f1⟩, ⟨(rd_T30 l i).f4.f0, (rd_T30 l i).f4.f1⟩, (rd_T30 l i).f5, (rd_T30 l i).f6, (rd_T30 l i).f7⟩ : S30)) (by simp only [rdset l i hl, Int.toNat_natCast, List.set_set]) ?_
    refine evPut (a := l.set i (⟨⟨a, (a + 1)⟩, (a + 2), ⟨(a + 3), (a + 4)⟩, ⟨(a + 5), (a + 6)⟩, ⟨(rd_T30 l i).f4.f0, (rd_T30 l i).f4.f1⟩, (rd_T30 l i).f5, (rd_T30 l i).f6, (rd_T30 l i).f7⟩ : S30)) (by simp only [rdset l i hl, Int.toNat_natCast, List.set_set]) ?_
    refine evPut (a := l.set i (⟨⟨a, (a + 1)⟩, (a + 2), ⟨(a + 3), (a + 4)⟩, ⟨(a + 5), (a + 6)⟩, ⟨(a + 7), (rd_T30 l i).f4.f1⟩, (rd_T30 l i).f5, (rd_T30 l i).f6, (rd_T30 l i).f7⟩ : S30)) (by simp only [rdset l i hl, Int.toNat_natCast, List.set_set]) ?_
    refine evPut (a := l.set i (⟨⟨a, (a + 1)⟩, (a + 2), ⟨(a + 3), (a + 4)⟩, ⟨(a + 5), (a + 6)⟩, ⟨(a + 7), (a + 8)⟩, (rd_T30 l i).f5, (rd_T30 l i).f6, (rd_T30 l i).f7⟩ : S30)) (by simp only [rdset l i hl, Int.toNat_natCast, List.set_set]) ?_
    refine evPut (a := l.set i (⟨⟨a, (a + 1)⟩, (a + 2), ⟨(a + 3), (a + 4)⟩, ⟨(a + 5), (a + 6)⟩, ⟨(a + 7), (a + 8)⟩, (a + 9), (rd_T30 l i).f6, (rd_T30 l i).f7⟩ : S30)) (by simp only [rdset l i hl, Int.toNat_natCast, List.set_set]) ?_
    refine evPut (a := l.set i (⟨⟨a, (a + 1)⟩, (a + 2), ⟨(a + 3), (a + 4)⟩, ⟨(a + 5), (a + 6)⟩, ⟨(a + 7), (a + 8)⟩, (a + 9), (Int.tmod (a + 10) 3 == 0), (rd_T30 l i).f7⟩ : S30)) (by simp only [rdset l i hl, Int.toNat_natCast, List.set_set]) ?_
    refine evBind es ?_
    simp only [rdset l i hl, Int.toNat_natCast, List.set_set]
    refine evEq em ?_
    rw [takeSucc _ i (by rw [List.length_set]; omega), List.take_set_of_le (Nat.le_refl i)]
    simp only [List.getElem_set_self, List.append_assoc, List.singleton_append]
    congr 1; omega
theorem ev_laws_markOpS (l : List S30) (a : Int) (hn : l.length ≤ 4000000) (h0 : 0 ≤ a) (h1 : a + 12 * l.length ≤ 100000000000) : ∃ m, Ev (fun k => laws_markOpS.f k l a) (a + 12 * l.length, m) ∧ m.length = l.length ∧ MK a m := by
  obtain ⟨m, em, ml, mk⟩ := ev_laws_markOpS_l l.length 0 l a hn (by omega) h0 h1
  exact ⟨m, evEq em (by simp), ml, mk⟩
theorem sltIrr (a b : Int) : slt a b a b = false := by simp [slt]
theorem sltTrans {a b c d e f : Int} (h : slt a b c d = true) (k : slt c d e f = true) : slt a b e f = true := by
  simp only [slt, decide_eq_true_eq] at h k ⊢; omega
/-- x's ID is below y's. -/
def idlt (x y : S30) : Prop := slt x.f0.f0 x.f0.f1 y.f0.f0 y.f0.f1 = true
theorem chB_pair : ∀ l : List S30, chB l = true → l.Pairwise idlt
  | [], _ => List.Pairwise.nil
  | [x], _ => List.pairwise_singleton _ _
  | x :: y :: r, h => by
    simp only [chB, Bool.and_eq_true] at h
    have ih := chB_pair (y :: r) h.2
    refine List.pairwise_cons.mpr ⟨fun z hz => ?_, ih⟩
    rcases List.mem_cons.mp hz with rfl | hz
    · exact h.1
    · exact sltTrans h.1 ((List.pairwise_cons.mp ih).1 z hz)
/-- What a valid log has. -/
structure LG (l : List S30) : Prop where
  len : l.length ≤ 40
  val : ∀ x ∈ l, opvB x = true
  pair : l.Pairwise idlt
theorem lg_of {l : List S30} (h : lgB l = true) : LG l := by
  simp only [lgB, Bool.and_eq_true, List.all_eq_true, decide_eq_true_eq] at h
  exact ⟨by omega, h.1, chB_pair l h.2.1⟩
theorem opv_vst {x : S30} (h : opvB x = true) : (1 ≤ x.f0.f0 ∧ x.f0.f0 ≤ 99) ∧ 0 ≤ x.f0.f1 ∧ x.f0.f1 ≤ 2 := by
  simp only [opvB, vopB, Bool.and_eq_true, vst, decide_eq_true_eq] at h
  exact h.1
/-- IDs tell the places. -/
theorem lg_uniq {l : List S30} (h : l.Pairwise idlt) {p q : Nat} (hp : p < l.length) (hq : q < l.length) (e : (l[p]).f0.f0 = (l[q]).f0.f0 ∧ (l[p]).f0.f1 = (l[q]).f0.f1) : p = q := by
  have hh := List.pairwise_iff_getElem.mp h
  rcases Nat.lt_trichotomy p q with h1 | h1 | h1
  · have := hh p q hp hq h1
    rw [idlt, e.1, e.2, sltIrr] at this; cases this
  · exact h1
  · have := hh q p hq hp h1
    rw [idlt, e.1, e.2, sltIrr] at this; cases this
/-- The law's own arguments, converted. -/
theorem cv_fact (l : List S25) (hl : (l.length : Int) ≤ 1048576) (ht : ∀ x ∈ l, x.f7.size ≤ 9223372036854775807) : (l.map cvOp).length ≤ 1048576 ∧ (∀ x ∈ l.map cvOp, x.f7.size ≤ 9223372036854775807) := by
  refine ⟨by rw [List.length_map]; omega, fun x hx => ?_⟩
  obtain ⟨y, hy, rfl⟩ := List.mem_map.mp hx
  exact ht y hy
def stepV (o : List Int) (x : S30) : List Int := o.set x.f0.f1.toNat x.f0.f0
def lgV (l : List S30) : List Int := l.foldl stepV (List.replicate 3 0)
theorem lgV_len : ∀ (l : List S30) (o : List Int), (l.foldl stepV o).length = o.length
  | [], _ => rfl
  | x :: r, o => by rw [List.foldl_cons, lgV_len r]; simp [stepV]
theorem ev_spec_logVector_l (l : List S30) (hg : LG l) : ∀ (d i : Nat) (o : List Int), i + d = l.length → o.length = 3 → (∀ y ∈ l.drop i, ∀ a : Nat, a < 3 → slt (o.getD a 0) (a : Int) y.f0.f0 y.f0.f1 = true) → Ev (fun k => spec_logVector.l0 k l o (i : Int)) ((l.drop i).foldl stepV o) := by
  have hn := hg.len
  intro d
  induction d with
  | zero =>
    intro i o hi ho hI
    refine Ev.step (fun _ => rfl) (evElse (by omega) (evSome ?_))
    rw [List.drop_of_length_le (by omega)]; rfl
  | succ d ih =>
    intro i o hi ho hI
    have hl : i < l.length := by omega
    have hv := opv_vst (hg.val l[i] (List.getElem_mem hl))
    have hpd : (l.drop i).Pairwise idlt := hg.pair.drop
    rw [dropCons l i hl] at hpd hI ⊢
    refine Ev.step (fun _ => rfl) (evIf (by omega) (evIf (by omega) ?_))
    rw [rd_iop l i hl, nat1 i (by omega)]
    have hc := hI l[i] (List.mem_cons_self) (l[i]).f0.f1.toNat (by omega)
    refine evIf (by omega) (evIf (by omega) (evIf ?_ ?_))
    · simp only [slt, decide_eq_true_eq] at hc
      simp only [rd]
      omega
    · rw [List.foldl_cons]
      refine ih (i + 1) _ (by omega) (by rw [List.length_set]; exact ho) (fun y hy a ha => ?_)
      have hxy : idlt l[i] y := (List.pairwise_cons.mp hpd).1 y hy
      by_cases h3 : (l[i]).f0.f1.toNat = a
      · subst h3
        have e : (o.set (l[i]).f0.f1.toNat (l[i]).f0.f0).getD (l[i]).f0.f1.toNat 0 = (l[i]).f0.f0 := by simp [ho, ha]
        have e2 : (((l[i]).f0.f1.toNat : Nat) : Int) = (l[i]).f0.f1 := by omega
        rw [e, e2]; exact hxy
      · have e : (o.set (l[i]).f0.f1.toNat (l[i]).f0.f0).getD a 0 = o.getD a 0 := by simp [List.getD_eq_getElem?_getD, List.getElem?_set_ne h3]
        rw [e]; exact hI y (List.mem_cons_of_mem _ hy) a ha
theorem ev_spec_logVector (l : List S30) (hg : LG l) : Ev (fun k => spec_logVector.f k l) (lgV l) := by
  unfold spec_logVector.f
  refine evIf (by omega) (ev_spec_logVector_l l hg l.length 0 _ (by omega) (by simp) (fun y hy a ha => ?_))
  have hv := opv_vst (hg.val y (by simpa using hy))
  have e : (List.replicate 3 (0 : Int)).getD a 0 = 0 := by rw [List.getD_eq_getElem?_getD, List.getElem?_replicate, if_pos ha]; rfl
  rw [e]
  simp only [slt, decide_eq_true_eq]; omega
theorem ev_spec_LogVector (l : List S30) (hn : l.length ≤ 1048576) (ht : ∀ x ∈ l, x.f7.size ≤ 9223372036854775807) : Ev (fun k => spec_LogVector.f k l) (if lgB l = true then lgV l else []) := by
  unfold spec_LogVector.f
  refine evBind (ev_spec_validLog l (by omega) ht) (evIte (fun h => evBind (ev_spec_logVector l (lg_of h)) (Ev.now _)) (fun _ => Ev.now _))
theorem ev_impl_LogVector_l (l : List S30) (hg : LG l) : ∀ (d i : Nat) (o : List Int), i + d = l.length → o.length = 3 → Ev (fun k => impl_LogVector.l0 k o l (l.length : Int) (i : Int)) ((l.drop i).foldl stepV o) := by
  have hn := hg.len
  intro d
  induction d with
  | zero =>
    intro i o hi ho
    refine Ev.step (fun _ => rfl) (evElse (by omega) (evSome ?_))
    rw [List.drop_of_length_le (by omega)]; rfl
  | succ d ih =>
    intro i o hi ho
    have hl : i < l.length := by omega
    have hv := opv_vst (hg.val l[i] (List.getElem_mem hl))
    rw [dropCons l i hl]
    refine Ev.step (fun _ => rfl) (evIf (by omega) (evIf (by omega) (evIf (by omega) ?_)))
    rw [rd_iop l i hl, nat1 i (by omega)]
    refine evIf (by omega) (evIf (by omega) ?_)
    rw [List.foldl_cons]
    exact ih (i + 1) _ (by omega) (by rw [List.length_set]; exact ho)
theorem ev_impl_LogVector (l : List S30) (hn : l.length ≤ 1048576) (ht : ∀ x ∈ l, x.f7.size ≤ 9223372036854775807) : Ev (fun k => impl_LogVector.f k l) (if lgB l = true then lgV l else []) := by
  unfold impl_LogVector.f
  refine evBind (ev_impl_ValidLog l (by omega) ht) (evIte (fun h => evIf (by omega) ?_) (fun _ => Ev.now _))
  exact ev_impl_LogVector_l l (lg_of h) l.length 0 _ (by omega) (by simp)
theorem FnExactLogVector : ∀ (l0 : List S25), l0.length ≤ maxLen → (∀ x ∈ l0, ((Lit.int .i64 x.f0.f0).wf = true ∧ (Lit.int .i64 x.f0.f1).wf = true) ∧ (Lit.int .i64 x.f1).wf = true ∧ ((Lit.int .i64 x.f2.f0).wf = true ∧ (Lit.int .i64 x.f2.f1).wf = true) ∧ ((Lit.int .i64 x.f3.f0).wf = true ∧ (Lit.int .i64 x.f3.f1).wf = true) ∧ ((Lit.int .i64 x.f4.f0).wf = true ∧ (Lit.int .i64 x.f4.f1).wf = true) ∧ (Lit.int .i64 x.f5).wf = true ∧ True ∧ x.f7.size ≤ maxLen) → ∃ k, laws_FnExactLogVector.f k l0 = some true := by
  intro l hl hq
  have hn : l.length ≤ 9223372036854775807 := by simp only [maxLen] at hl; omega
  have ht : ∀ x ∈ l, x.f7.size ≤ 9223372036854775807 := fun x hx => by have h := (hq x hx).2.2.2.2.2.2.2; simp only [maxLen] at h; omega
  apply Ev.rounds
  unfold laws_FnExactLogVector.f
  obtain ⟨r, er, hr⟩ := ev_laws_szOpS l hn ht 1048576 (by omega) (by omega)
  refine evBind er ?_
  by_cases h0 : r < 0
  · exact evIf h0 (Ev.now _)
  obtain ⟨_, h1, h2⟩ := hr (by omega)
  obtain ⟨ln, lt⟩ := cv_fact l h1 ht
  have eT := ev_laws_toOpS l (by omega)
  have hM := ev_impl_LogVector (l.map cvOp) ln lt
  have hm : (if lgB (l.map cvOp) = true then lgV (l.map cvOp) else ([] : List Int)).length ≤ 2000000 := by
    split
    · rw [lgV, lgV_len]; simp
    · simp
  refine evElse h0 (evBind eT (evBind (ev_spec_LogVector _ ln lt) (evBind eT (evBind hM ?_))))
  generalize (if lgB (l.map cvOp) = true then lgV (l.map cvOp) else ([] : List Int)) = m at hm hM ⊢
  obtain ⟨mm, em, _, _⟩ := ev_laws_markOpS (l.map cvOp) 1 (by omega) (by omega) (by omega)
  refine evBind (ev_laws_eqIntS m m hm) (evIf (by simp) (evBind eT (evBind (ev_laws_eqOpS _ (by omega)) (evIf rfl (evBind em (evElse (by simp only; omega) (evBind (ev_laws_eqIntS m m hm) ?_)))))))
  refine Ev.step (fun _ => rfl) (evElse (by simp) (evBind (ev_laws_markIntS m 1 hm (by omega) (by omega)) (evBind (ev_laws_heldIntS m.length 1 hm (by omega) (by omega)) (evElse (by first | omega | (simp only; omega) | (simp; omega)) (evIf (by first | rfl | simp only | simp) ?_)))))
  refine evBind eT (evBind hM (evBind (ev_laws_eqIntS m m hm) (evIf (by simp) ?_)))
  exact evBind (ev_laws_heldIntS m.length 1 hm (by omega) (by omega)) (evElse (by first | omega | (simp only; omega) | (simp; omega)) (evIf (by first | rfl | simp only | simp) (Ev.now _)))

end Go.Proofs.Ytomigiindmojkaa.Pure

/- The plain side of the statement FnExactValidLog: the printed functions answer true at every input. Conditions: none beyond the given statement's own. -/
import Derived.Test.YtomigiindmojkaaQLx14
import Derived.Test.YtomigiindmojkaaBase
namespace Go.Proofs.Ytomigiindmojkaa.Pure
open Go.RowKit Go.Proofs.Ytomigiindmojkaa.QL Go.Proofs.YtomigiindmojkaaW.PrintWords Go.Proofs.YtomigiindmojkaaW.PrintLast Go.Proofs.Ytomigiindmojkaa.Base
set_option linter.unusedVariables false
set_option linter.unusedSimpArgs false

def inV (x : Int) : Bool := decide (0 ≤ x ∧ x ≤ 99)
/-- A valid vector: three entries of 0 to 99. -/
def vv (l : List Int) : Bool := l.all inV && decide (l.length = 3)
theorem vv_length {l : List Int} (h : vv l = true) : l.length = 3 := by
  simp only [vv, Bool.and_eq_true, decide_eq_true_eq] at h
  exact h.2
theorem vv_form {l : List Int} (h : vv l = true) : ∃ a b c, l = [a, b, c] ∧ (0 ≤ a ∧ a ≤ 99) ∧ (0 ≤ b ∧ b ≤ 99) ∧ (0 ≤ c ∧ c ≤ 99) := by
  have hl := vv_length h
  match l, hl with
  | [a, b, c], _ =>
    simp [vv, inV] at h
    exact ⟨a, b, c, rfl, h⟩
def iota (a : Int) (n : Nat) : List Int := (List.range n).map fun i : Nat => a + (i : Int)
theorem iota_length (a : Int) (n : Nat) : (iota a n).length = n := by simp [iota]
theorem iota_succ (a : Int) (n : Nat) : iota a (n + 1) = a :: iota (a + 1) n := by
  simp only [iota, List.range_succ_eq_map, List.map_cons, List.map_map]
  congr 1
  · simp
  · apply List.map_congr_left; intro i _; simp only [Function.comp]; omega
/-- Every entry of a is at most that of b (of equal lengths). -/
def leL : List Int → List Int → Bool
  | a :: l, b :: m => decide (a ≤ b) && leL l m
  | _, _ => true
def vle (a b : List Int) : Bool := vv a && (vv b && leL a b)
def maxL (a b : List Int) : List Int := List.zipWith mx a b
def minL (a b : List Int) : List Int := List.zipWith mn a b
def mostL (l : List Int) (m : Int) : Int := l.foldl mx m
theorem mostL_cons (a : Int) (l : List Int) (m : Int) : mostL (a :: l) m = mostL l (mx m a) := rfl
def nextS (l : List Int) (who : Int) : Int × Int := if vv l = true ∧ 0 ≤ who ∧ who ≤ 2 then (if 99 ≤ mostL l 0 then (0, 0) else (mostL l 0 + 1, who)) else (0, 0)
theorem mx_range {a b : Int} (h : 0 ≤ a ∧ a ≤ 99) (k : 0 ≤ b ∧ b ≤ 99) : 0 ≤ mx a b ∧ mx a b ≤ 99 := by unfold mx; omega
theorem mostL_range : ∀ (l : List Int) (m : Int), l.all inV = true → 0 ≤ m ∧ m ≤ 99 → 0 ≤ mostL l m ∧ mostL l m ≤ 99
  | [], m, _, hm => hm
  | a :: l, m, h, hm => by
    simp only [List.all_cons, Bool.and_eq_true] at h
    have ha : 0 ≤ a ∧ a ≤ 99 := by simpa [inV] using h.1
    exact mostL_range l (mx m a) h.2 (mx_range hm ha)
theorem vv_all {l : List Int} (h : vv l = true) : l.all inV = true := by
  simp only [vv, Bool.and_eq_true] at h
  exact h.1
theorem inV_get {l : List Int} (h : l.all inV = true) (i : Nat) (hi : i < l.length) : 0 ≤ l[i] ∧ l[i] ≤ 99 := by
  have := (List.all_eq_true.1 h) l[i] (List.getElem_mem hi)
  simpa [inV] using this
theorem xorOk (a b : Int) (ha : 0 ≤ a ∧ a < 4611686018427387904) (hb : 0 ≤ b ∧ b < 4611686018427387904) : 0 ≤ Go.bits .xor .i64 a b := by
  obtain ⟨x, rfl⟩ := Int.eq_ofNat_of_zero_le ha.1
  obtain ⟨y, rfl⟩ := Int.eq_ofNat_of_zero_le hb.1
  have hx : x < 2 ^ 62 := by omega
  have hy : y < 2 ^ 62 := by omega
  have hz := Nat.xor_lt_two_pow hx hy
  have e : Go.bits .xor .i64 (x : Int) (y : Int) = ((x ^^^ y : Nat) : Int) := by
    simp only [Go.bits, BitVec.ofInt_natCast, BitVec.toNat_xor, BitVec.toNat_ofNat]
    rw [Nat.mod_eq_of_lt (show x < 2 ^ IntKind.i64.bits from Nat.lt_of_lt_of_le hx (by decide)), Nat.mod_eq_of_lt (show y < 2 ^ IntKind.i64.bits from Nat.lt_of_lt_of_le hy (by decide)), IntKind.wrap_i64]
    omega
  rw [e]; omega
/-- What a reader may hold: at most 2000 bytes. -/
structure BOk (b : List Int) : Prop where
  len : b.length ≤ 2000
  byte : ∀ x ∈ b, 0 ≤ x ∧ x ≤ 255
theorem BOk.rd {b : List Int} (h : BOk b) {i : Int} (h0 : 0 ≤ i) (h1 : i < b.length) : 0 ≤ Go.Proofs.YtomigiindmojkaaW.PrintWords.rd b i ∧ Go.Proofs.YtomigiindmojkaaW.PrintWords.rd b i ≤ 255 := by
  obtain ⟨n, rfl⟩ := Int.eq_ofNat_of_zero_le h0
  rw [rdAt _ _ (by omega)]
  exact h.byte _ (List.getElem_mem _)
theorem wf_u8 {l : List Int} (h : ∀ x ∈ l, (Lit.int .u8 x).wf = true) : ∀ x ∈ l, 0 ≤ x ∧ x ≤ 255 := fun x hx => by
  have := h x hx
  simp [Lit.wf, IntKind.min, IntKind.max, IntKind.bits, IntKind.signed] at this
  omega
/-- A call that draws: it comes to its answer v and moves the place on from p by at most m. -/
def Draws {α : Type} (g : Nat → Option (α × Int)) (p m : Int) (P : α → Prop) : Prop := ∃ v q, Ev g (v, q) ∧ p ≤ q ∧ q ≤ p + m ∧ P v
def schB (a b : Int) : Bool := decide ((a = 0 ∧ (b = 1 ∨ b = 2 ∨ b = 3)) ∨ (a = 3 ∧ b = 4) ∨ (a = 4 ∧ (b = 1 ∨ b = 3)))
theorem eq_laws_toStamp (a b : Int) : laws_toStamp.f a b = some (a, b) := rfl
theorem eq_impl_StampLess (a b c d : Int) : impl_StampLess.f a b c d = some (slt a b c d) := by
  unfold impl_StampLess.f slt
  by_cases h : a < c
  · simp [h]
  · by_cases h' : a = c <;> simp [h, h']
theorem eq_spec_stampLess (a b c d : Int) : spec_stampLess.f a b c d = some (slt a b c d) := by
  unfold spec_stampLess.f slt
  by_cases h : a < c
  · simp [h]
  · by_cases h' : a = c <;> simp [h, h']
/-- The vector covers the stamp. -/
def vco (l : List Int) (q a : Int) : Bool := vv l && (vst q a && decide (q ≤ rd l a))
theorem mostL_self (l : List Int) : ∀ m, m ≤ mostL l m := by
  induction l with
  | nil => intro m; exact Int.le_refl _
  | cons a l ih =>
    intro m
    rw [mostL_cons]
    have := ih (mx m a)
    have : m ≤ mx m a := by unfold mx; omega
    omega
theorem mostL_mem (l : List Int) : ∀ m (i : Nat) (h : i < l.length), l[i] ≤ mostL l m := by
  induction l with
  | nil => intro m i h; simp at h
  | cons a l ih =>
    intro m i h
    rw [mostL_cons]
    cases i with
    | zero =>
      have := mostL_self l (mx m a)
      have : a ≤ mx m a := by unfold mx; omega
      simp; omega
    | succ i => simpa using ih (mx m a) i (by simpa using h)
theorem nextS_some {c : List Int} {who : Int} (h : ¬ ((nextS c who).1 = 0 ∧ (nextS c who).2 = 0)) : vv c = true ∧ 0 ≤ who ∧ who ≤ 2 ∧ nextS c who = (mostL c 0 + 1, who) ∧ 0 ≤ mostL c 0 ∧ mostL c 0 < 99 := by
  unfold nextS at h ⊢
  split at h
  · rename_i hc
    split at h
    · exact absurd ⟨rfl, rfl⟩ h
    · rename_i h9
      have := mostL_range c 0 (vv_all hc.1) (by omega)
      rw [if_pos hc, if_neg h9]
      exact ⟨hc.1, hc.2.1, hc.2.2, rfl, this.1, by omega⟩
  · exact absurd ⟨rfl, rfl⟩ h
theorem vco_le {c : List Int} {q a : Int} (h : vco c q a = true) : q ≤ mostL c 0 := by
  simp only [vco, Bool.and_eq_true, decide_eq_true_eq] at h
  obtain ⟨h1, h2, h3⟩ := h
  have hl := vv_length h1
  simp only [vst, decide_eq_true_eq] at h2
  obtain ⟨n, rfl⟩ := Int.eq_ofNat_of_zero_le h2.2.1
  rw [rdAt _ _ (by omega)] at h3
  have := mostL_mem c 0 n (by omega)
  omega
theorem rd3_0 (x y z : Int) : rd [x, y, z] 0 = x := rfl
theorem rd3_1 (x y z : Int) : rd [x, y, z] 1 = y := rfl
theorem rd3_2 (x y z : Int) : rd [x, y, z] 2 = z := rfl
theorem vv_mk {x y z : Int} (hx : 0 ≤ x ∧ x ≤ 99) (hy : 0 ≤ y ∧ y ≤ 99) (hz : 0 ≤ z ∧ z ≤ 99) : vv [x, y, z] = true := by simp [vv, inV, hx, hy, hz]
theorem mn_range {a b : Int} (h : 0 ≤ a ∧ a ≤ 99) (k : 0 ≤ b ∧ b ≤ 99) : 0 ≤ mn a b ∧ mn a b ≤ 99 := by unfold mn; omega
theorem vst_at {q a : Int} (h : vst q a = true) : a = 0 ∨ a = 1 ∨ a = 2 := by
  simp only [vst, decide_eq_true_eq] at h; omega
theorem vv_max {a b : List Int} (ha : vv a = true) (hb : vv b = true) : vv (maxL a b) = true := by
  obtain ⟨a1, a2, a3, rfl, h1, h2, h3⟩ := vv_form ha
  obtain ⟨b1, b2, b3, rfl, k1, k2, k3⟩ := vv_form hb
  exact vv_mk (mx_range h1 k1) (mx_range h2 k2) (mx_range h3 k3)
theorem vv_min {a b : List Int} (ha : vv a = true) (hb : vv b = true) : vv (minL a b) = true := by
  obtain ⟨a1, a2, a3, rfl, h1, h2, h3⟩ := vv_form ha
  obtain ⟨b1, b2, b3, rfl, k1, k2, k3⟩ := vv_form hb
  exact vv_mk (mn_range h1 k1) (mn_range h2 k2) (mn_range h3 k3)
theorem le_mx (q a b : Int) : decide (q ≤ mx a b) = (decide (q ≤ a) || decide (q ≤ b)) := by
  rw [Bool.eq_iff_iff]; simp only [Bool.or_eq_true, decide_eq_true_eq]; unfold mx; omega
theorem le_mn (q a b : Int) : decide (q ≤ mn a b) = (decide (q ≤ a) && decide (q ≤ b)) := by
  rw [Bool.eq_iff_iff]; simp only [Bool.and_eq_true, decide_eq_true_eq]; unfold mn; omega
theorem vco_max {a b : List Int} (ha : vv a = true) (hb : vv b = true) (q c : Int) : vco (maxL a b) q c = (vco a q c || vco b q c) := by
  cases hs : vst q c with
  | false => simp [vco, hs]
  | true =>
    simp only [vco, vv_max ha hb, ha, hb, hs, Bool.true_and]
    obtain ⟨a1, a2, a3, rfl, _⟩ := vv_form ha
    obtain ⟨b1, b2, b3, rfl, _⟩ := vv_form hb
    rcases vst_at hs with rfl | rfl | rfl <;> exact le_mx _ _ _
theorem vco_min {a b : List Int} (ha : vv a = true) (hb : vv b = true) (q c : Int) : vco (minL a b) q c = (vco a q c && vco b q c) := by
  cases hs : vst q c with
  | false => simp [vco, hs]
  | true =>
    simp only [vco, vv_min ha hb, ha, hb, hs, Bool.true_and]
    obtain ⟨a1, a2, a3, rfl, _⟩ := vv_form ha
    obtain ⟨b1, b2, b3, rfl, _⟩ := vv_form hb
    rcases vst_at hs with rfl | rfl | rfl <;> exact le_mn _ _ _
theorem mx_comm (a b : Int) : mx a b = mx b a := by unfold mx; omega
theorem mn_comm (a b : Int) : mn a b = mn b a := by unfold mn; omega
theorem maxL_comm (a : List Int) : ∀ b, maxL a b = maxL b a := by
  induction a with
  | nil => intro b; cases b <;> rfl
  | cons x a ih => intro b; cases b with
    | nil => rfl
    | cons y b => simp only [maxL, List.zipWith_cons_cons, mx_comm x y]; exact congrArg _ (ih b)
theorem minL_comm (a : List Int) : ∀ b, minL a b = minL b a := by
  induction a with
  | nil => intro b; cases b <;> rfl
  | cons x a ih => intro b; cases b with
    | nil => rfl
    | cons y b => simp only [minL, List.zipWith_cons_cons, mn_comm x y]; exact congrArg _ (ih b)
theorem leL_min_max (a : List Int) : ∀ b, leL (minL a b) (maxL a b) = true := by
  induction a with
  | nil => intro b; cases b <;> rfl
  | cons x a ih => intro b; cases b with
    | nil => rfl
    | cons y b =>
      simp only [minL, maxL, List.zipWith_cons_cons, leL, Bool.and_eq_true, decide_eq_true_eq]
      exact ⟨by unfold mn mx; omega, ih b⟩
theorem leL_iff (a : List Int) : ∀ b, a.length = b.length → leL a b = decide (maxL a b = b) := by
  induction a with
  | nil => intro b h; cases b with
    | nil => rfl
    | cons y b => simp at h
  | cons x a ih => intro b h; cases b with
    | nil => simp at h
    | cons y b =>
      have := ih b (by simpa using h)
      simp only [leL, maxL, List.zipWith_cons_cons, List.cons.injEq, this, Bool.decide_and]
      congr 1
      rw [Bool.eq_iff_iff]; simp only [decide_eq_true_eq]; unfold mx; omega
theorem leL_antisymm (a : List Int) : ∀ b, a.length = b.length → (leL a b && leL b a) = decide (a = b) := by
  induction a with
  | nil => intro b h; cases b with
    | nil => rfl
    | cons y b => simp at h
  | cons x a ih => intro b h; cases b with
    | nil => simp at h
    | cons y b =>
      have := ih b (by simpa using h)
      rw [Bool.eq_iff_iff] at this ⊢
      simp only [leL, List.cons.injEq, Bool.and_eq_true, decide_eq_true_eq] at this ⊢
      rw [← this]
      constructor
      · rintro ⟨⟨h1, h2⟩, h3, h4⟩; exact ⟨by omega, h2, h4⟩
      · rintro ⟨rfl, h2, h4⟩; exact ⟨⟨by omega, h2⟩, by omega, h4⟩
theorem vco_mono {a b : List Int} (ha : vv a = true) (hb : vv b = true) (h : leL a b = true) {q c : Int} (hc : vco a q c = true) : vco b q c = true := by
  rw [leL_iff a b (by rw [vv_length ha, vv_length hb]), decide_eq_true_eq] at h
  rw [← h, vco_max ha hb, hc]; rfl
theorem strOfNums_app (xs ys : List Int) : strOfNums xs ++ strOfNums ys = strOfNums (xs ++ ys) := by
  apply ByteArray.ext
  apply Array.ext'
  simp [strOfNums]
theorem strOfNums_list (xs : List Int) : (strOfNums xs).toList = xs.map fun n => UInt8.ofNat n.toNat := by
  rw [ByteArray.toList_eq]; rfl
/-- A number of 0 to 99 in decimal, as bytes. -/
def dec (q : Int) : List Int := if q < 10 then [48 + q] else [48 + q / 10, 48 + q % 10]
/-- A valid stamp's text, as bytes. -/
def encL (q a : Int) : List Int := dec q ++ [97 + a]
theorem dec_length (q : Int) : 1 ≤ (dec q).length ∧ (dec q).length ≤ 2 := by unfold dec; split <;> simp
/-- The text of a stamp, valid or zero, else the empty text. -/
def encS (q a : Int) : ByteArray := if vst q a = true then strOfNums (encL q a) else if q = 0 ∧ a = 0 then ⟨#[45]⟩ else ⟨#[]⟩
theorem encS_size (q a : Int) : (encS q a).size ≤ 3 := by
  unfold encS
  split
  · rw [strOfNums_size]; have := dec_length q; simp [encL]; omega
  · split
    · decide
    · decide
theorem byteBack (x : UInt8) (n : Int) (h : n = (x.toNat : Int)) : UInt8.ofNat n.toNat = x := by
  subst h; simp
/-- One digit; two digits without a leading zero. -/
def num1 (x : UInt8) : Option Int := if 48 ≤ (x.toNat : Int) ∧ (x.toNat : Int) ≤ 57 then some ((x.toNat : Int) - 48) else none
def num2 (x y : UInt8) : Option Int := if (49 ≤ (x.toNat : Int) ∧ (x.toNat : Int) ≤ 57) ∧ 48 ≤ (y.toNat : Int) ∧ (y.toNat : Int) ≤ 57 then some (((x.toNat : Int) - 48) * 10 + ((y.toNat : Int) - 48)) else none
theorem bt1 (x : UInt8) : bt ⟨#[x]⟩ 0 = (x.toNat : Int) := (bt_at ⟨#[x]⟩ 0 (show (0 : Nat) < 1 by omega)).symm
theorem sz1 (x : UInt8) : ((⟨#[x]⟩ : ByteArray).size : Int) = 1 := rfl
theorem sz2 (x y : UInt8) : ((⟨#[x, y]⟩ : ByteArray).size : Int) = 2 := rfl
theorem w0 : wrap64 0 = 0 := wrapId (by omega) (by omega)
theorem w01 : wrap64 (0 + 1) = 1 := wrapId (by omega) (by omega)
theorem w11 : wrap64 (1 + 1) = 2 := wrapId (by omega) (by omega)
theorem bt2_0 (x y : UInt8) : bt ⟨#[x, y]⟩ 0 = (x.toNat : Int) := (bt_at ⟨#[x, y]⟩ 0 (show (0 : Nat) < 2 by omega)).symm
theorem bt2_1 (x y : UInt8) : bt ⟨#[x, y]⟩ 1 = (y.toNat : Int) := (bt_at ⟨#[x, y]⟩ 1 (show (1 : Nat) < 2 by omega)).symm
/-- What decoding a text gives: the stamp and whether it is one. -/
def decS : List UInt8 → Int × Int × Bool
  | [c] => if c = 45 then (0, 0, true) else (0, 0, false)
  | [x, c] => match num1 x with | some n => if vst n ((c.toNat : Int) - 97) = true then (n, (c.toNat : Int) - 97, true) else (0, 0, false) | none => (0, 0, false)
  | [x, y, c] => match num2 x y with | some n => if vst n ((c.toNat : Int) - 97) = true then (n, (c.toNat : Int) - 97, true) else (0, 0, false) | none => (0, 0, false)
  | _ => (0, 0, false)
theorem decS_1 (c : UInt8) : decS [c] = if c = 45 then (0, 0, true) else (0, 0, false) := rfl
theorem decS_2 (x c : UInt8) : decS [x, c] = match num1 x with | some n => if vst n ((c.toNat : Int) - 97) = true then (n, (c.toNat : Int) - 97, true) else (0, 0, false) | none => (0, 0, false) := rfl
theorem decS_3 (x y c : UInt8) : decS [x, y, c] = match num2 x y with | some n => if vst n ((c.toNat : Int) - 97) = true then (n, (c.toNat : Int) - 97, true) else (0, 0, false) | none => (0, 0, false) := rfl
theorem wrapByte (c : UInt8) : wrap64 (wrap64 (c.toNat : Int) - 97) = (c.toNat : Int) - 97 := by
  have := c.toNat_lt
  rw [wrapId (x := (c.toNat : Int)) (by omega) (by omega), wrapId (by omega) (by omega)]
theorem bt3_2 (x y z : UInt8) : bt ⟨#[x, y, z]⟩ 2 = (z.toNat : Int) := (bt_at ⟨#[x, y, z]⟩ 2 (show (2 : Nat) < 3 by omega)).symm
theorem ext2 (x c : UInt8) : (⟨#[x, c]⟩ : ByteArray).extract 0 1 = ⟨#[x]⟩ := by apply ByteArray.ext; simp
theorem ext3 (x y c : UInt8) : (⟨#[x, y, c]⟩ : ByteArray).extract 0 2 = ⟨#[x, y]⟩ := by apply ByteArray.ext; simp
theorem encS_none (a : Int) : encS (-1) a = ⟨#[]⟩ := by
  unfold encS; rw [if_neg (by simp [vst]), if_neg (by omega)]
theorem encS_bad {q a : Int} (h : ¬ vst q a = true) : (encS q a).size ≤ 1 := by
  unfold encS; rw [if_neg h]; split <;> decide
theorem encS_one {x c : UInt8} {n : Int} (hx : num1 x = some n) (h : vst n ((c.toNat : Int) - 97) = true) : (encS n ((c.toNat : Int) - 97)).toList = [x, c] := by
  unfold encS
  rw [if_pos h, strOfNums_list]
  unfold num1 at hx
  split at hx
  · injection hx with hx
    subst hx
    rw [encL, dec, if_pos (by omega)]
    simp only [List.cons_append, List.nil_append, List.map_cons, List.map_nil]
    rw [byteBack x _ (by omega), byteBack c _ (by omega)]
  · cases hx
theorem encS_two {x y c : UInt8} {n : Int} (hx : num2 x y = some n) (h : vst n ((c.toNat : Int) - 97) = true) : (encS n ((c.toNat : Int) - 97)).toList = [x, y, c] := by
  unfold encS
  rw [if_pos h, strOfNums_list]
  unfold num2 at hx
  split at hx
  · rename_i hd
    injection hx with hx
    subst hx
    rw [encL, dec, if_neg (by omega)]
    simp only [List.cons_append, List.nil_append, List.map_cons, List.map_nil]
    rw [byteBack x _ (by omega), byteBack y _ (by omega), byteBack c _ (by omega)]
  · cases hx
theorem list_size {s : ByteArray} {l : List UInt8} (h : s.toList = l) : s.size = l.length := by
  rw [← h, ByteArray.toList_eq]; rfl
theorem eq_spec_validOp (i0 i1 kd t0 t1 a0 a1 n0 n1 v : Int) (en : Bool) (tx : ByteArray) (hn : tx.size ≤ 9223372036854775807) : spec_validOp.f i0 i1 kd t0 t1 a0 a1 n0 n1 v en tx = some (vopB i0 i1 kd t0 t1 a0 a1 n0 n1 v en tx) := if_pos hn
theorem eq_impl_ValidOp (i0 i1 kd t0 t1 a0 a1 n0 n1 v : Int) (en : Bool) (tx : ByteArray) (hn : tx.size ≤ 9223372036854775807) : impl_ValidOp.f i0 i1 kd t0 t1 a0 a1 n0 n1 v en tx = some (vopB i0 i1 kd t0 t1 a0 a1 n0 n1 v en tx) := if_pos hn
theorem eq_laws_toOp (i0 i1 kd t0 t1 a0 a1 n0 n1 v : Int) (en : Bool) (tx : ByteArray) : laws_toOp.f i0 i1 kd t0 t1 a0 a1 n0 n1 v en tx = some (i0, i1, kd, t0, t1, a0, a1, n0, n1, v, en, tx) := rfl
theorem eq_laws_szOp (i0 i1 kd t0 t1 a0 a1 n0 n1 v : Int) (en : Bool) (tx : ByteArray) (b : Int) : laws_szOp.f i0 i1 kd t0 t1 a0 a1 n0 n1 v en tx b = some (if wrap64 (b - (tx.size : Int)) < 0 then -1 else wrap64 (b - (tx.size : Int))) := by
  unfold laws_szOp.f
  split <;> rfl
theorem subW {b n : Int} (h0 : 0 ≤ b) (h1 : b ≤ 4611686018427387904) (h2 : 0 ≤ n) (h3 : n ≤ 9223372036854775807) : wrap64 (b - n) = b - n := wrapId (by omega) (by omega)
theorem nat1 (i : Nat) (h : i < 4611686018427387904) : wrap64 ((i : Int) + 1) = ((i + 1 : Nat) : Int) := wrapSucc i h
theorem rd_lop (l : List S25) (i : Nat) (h : i < l.length) : rd_T25 l (i : Int) = l[i] := by simp [rd_T25, h]
theorem ev_laws_szOpS_l (l : List S25) (hn : l.length ≤ 4611686018427387900) (ht : ∀ x ∈ l, x.f7.size ≤ 9223372036854775807) : ∀ (d i : Nat) (b : Int), i + d = l.length → 0 ≤ b → b ≤ 1048576 → ∃ r, Ev (fun k => laws_szOpS.l0 k l b (i : Int)) r ∧ (0 ≤ r → r ≤ b ∧ ∀ x ∈ l.drop i, (x.f7.size : Int) ≤ b) := by
  intro d
  induction d with
  | zero =>
    intro i b hi h0 h1
    refine ⟨b, Ev.step (fun _ => rfl) (evElse (by omega) (Ev.now _)), fun _ => ⟨Int.le_refl _, ?_⟩⟩
    rw [List.drop_of_length_le (by omega)]
    exact fun x hx => absurd hx (by simp)
  | succ d ih =>
    intro i b hi h0 h1
    have hl : i < l.length := by omega
    have hs := ht (l[i]) (List.getElem_mem hl)
    by_cases hb : b - ((l[i]).f7.size : Int) < 0
    · refine ⟨-1, Ev.step (fun _ => rfl) (evIf (by omega) (evIf (by omega) (evPut (a := -1) ?_ (evIf (by omega) (Ev.now _))))), fun h => absurd h (by omega)⟩
      rw [rd_lop l i hl, eq_laws_szOp, subW h0 (by omega) (by omega) (by omega), if_pos hb]
    · obtain ⟨r, e, k⟩ := ih (i + 1) (b - ((l[i]).f7.size : Int)) (by omega) (by omega) (by omega)
      refine ⟨r, Ev.step (fun _ => rfl) (evIf (by omega) (evIf (by omega) (evPut (a := b - ((l[i]).f7.size : Int)) ?_ (evElse hb ?_)))), fun h => ?_⟩
      · rw [rd_lop l i hl, eq_laws_szOp, subW h0 (by omega) (by omega) (by omega), if_neg hb]
      · rw [nat1 i (by omega)]; exact e
      · obtain ⟨k1, k2⟩ := k h
        refine ⟨by omega, fun x hx => ?_⟩
        rw [dropCons l i hl] at hx
        rcases List.mem_cons.mp hx with rfl | hx
        · omega
        · have := k2 x hx; omega
theorem ev_laws_szOpS (l : List S25) (hn : l.length ≤ 9223372036854775807) (ht : ∀ x ∈ l, x.f7.size ≤ 9223372036854775807) (b : Int) (h0 : 0 ≤ b) (h1 : b ≤ 1048576) : ∃ r, Ev (fun k => laws_szOpS.f k l b) r ∧ (0 ≤ r → r ≤ b ∧ (l.length : Int) ≤ b ∧ ∀ x ∈ l, (x.f7.size : Int) ≤ b) := by
  unfold laws_szOpS.f
  rw [subW h0 (by omega) (by omega) (by omega)]
  by_cases h : b - (l.length : Int) < 0
  · exact ⟨-1, evIf h (Ev.now _), fun h => absurd h (by omega)⟩
  · obtain ⟨r, e, k⟩ := ev_laws_szOpS_l l (by omega) ht l.length 0 (b - (l.length : Int)) (by omega) (by omega) (by omega)
    refine ⟨r, evElse h e, fun h => ?_⟩
    obtain ⟨k1, k2⟩ := k h
    exact ⟨by omega, by omega, fun x hx => by have := k2 x hx; omega⟩
/-- The conversion of an operation. -/
def cvOp (x : S25) : S30 := ⟨⟨x.f0.f0, x.f0.f1⟩, x.f1, ⟨x.f2.f0, x.f2.f1⟩, ⟨x.f3.f0, x.f3.f1⟩, ⟨x.f4.f0, x.f4.f1⟩, x.f5, x.f6, x.f7⟩
theorem ev_laws_toOpS_l (l : List S25) (hn : l.length ≤ 2706490160679) : ∀ (d i : Nat) (m : List S30), i + d = l.length → m.length = l.length → m.take i = (l.take i).map cvOp → Ev (fun k => laws_toOpS.l0 k l m (i : Int)) (l.map cvOp) := by
  intro d
  induction d with
  | zero =>
    intro i m hi hm ht
    refine Ev.step (fun _ => rfl) (evElse (by omega) (evSome ?_))
    rw [List.take_of_length_le (by omega), List.take_of_length_le (by omega)] at ht
    exact ht
  | succ d ih =>
    intro i m hi hm ht
    have hl : i < l.length := by omega
    refine Ev.step (fun _ => rfl) (evIf (by omega) (evIf (by omega) (evPut (eq_laws_toOp _ _ _ _ _ _ _ _ _ _ _ _) (evIf (by omega) ?_))))
    rw [nat1 i (by omega), rd_lop l i hl]
    refine ih (i + 1) _ (by omega) (by rw [List.length_set]; exact hm) ?_
    rw [takeSucc _ i (by rw [List.length_set]; omega), takeSucc l i hl, List.map_append, List.map_singleton, ← ht]
    congr 1
    · rw [Int.toNat_natCast, List.take_set_of_le (Nat.le_refl i)]
    · simp [cvOp]
theorem ev_laws_toOpS (l : List S25) (hn : l.length ≤ 2706490160679) : Ev (fun k => laws_toOpS.f k l) (l.map cvOp) := by
  unfold laws_toOpS.f
  refine evIf (by omega) (evIf (by omega) ?_)
  exact ev_laws_toOpS_l l hn l.length 0 _ (by omega) (by simp) (by simp)
theorem eq_laws_eqOp (a0 a1 a2 a3 a4 a5 a6 a7 a8 a9 : Int) (a10 : Bool) (a11 : ByteArray) : laws_eqOp.f a0 a1 a2 a3 a4 a5 a6 a7 a8 a9 a10 a11 a0 a1 a2 a3 a4 a5 a6 a7 a8 a9 a10 a11 = some true := by
  unfold laws_eqOp.f
  simp [opB, stB]
theorem ev_laws_eqOpS_l (l : List S30) (hn : l.length ≤ 4611686018427387900) : ∀ (d i : Nat), i + d = l.length → Ev (fun k => laws_eqOpS.l0 k l l (i : Int)) true := by
  intro d
  induction d with
  | zero =>
    intro i hi
    exact Ev.step (fun _ => rfl) (evElse (by omega) (Ev.now _))
  | succ d ih =>
    intro i hi
    refine Ev.step (fun _ => rfl) (evIf (by omega) (evIf (by omega) (evIf (by omega) (evPut (eq_laws_eqOp _ _ _ _ _ _ _ _ _ _ _ _) (evIf rfl ?_)))))
    rw [nat1 i (by omega)]
    exact ih (i + 1) (by omega)
theorem ev_laws_eqOpS (l : List S30) (hn : l.length ≤ 4611686018427387900) : Ev (fun k => laws_eqOpS.f k l l) true := by
  unfold laws_eqOpS.f
  exact evIf rfl (ev_laws_eqOpS_l l hn l.length 0 (by omega))
theorem eq_spec_stampLessL (a b c d : Int) : spec_stampLess.f a b c d = some (slt a b c d) := mq_spec_stampLess a b c d
theorem rd_iop (l : List S30) (i : Nat) (h : i < l.length) : rd_T30 l (i : Int) = l[i] := by simp [rd_T30, h]
def opvB (x : S30) : Bool := vopB x.f0.f0 x.f0.f1 x.f1 x.f2.f0 x.f2.f1 x.f3.f0 x.f3.f1 x.f4.f0 x.f4.f1 x.f5 x.f6 x.f7
/-- Each operation's ID is below the next one's. -/
def chB : List S30 → Bool
  | [] => true
  | [_] => true
  | x :: y :: r => slt x.f0.f0 x.f0.f1 y.f0.f0 y.f0.f1 && chB (y :: r)
/-- A valid log. -/
def lgB (l : List S30) : Bool := l.all opvB && (chB l && decide ((l.length : Int) ≤ 40))
theorem chB_end (l : List S30) (i : Nat) (h : l.length ≤ i) : chB (l.drop (i - 1)) = true := by
  by_cases h0 : l.length ≤ i - 1
  · rw [List.drop_of_length_le h0]; rfl
  · rw [dropCons l (i - 1) (by omega), List.drop_of_length_le (by omega)]; rfl
theorem chB_step (l : List S30) (i : Nat) (h0 : 0 < i) (h : i < l.length) : chB (l.drop (i - 1)) = (slt (l[i - 1]).f0.f0 (l[i - 1]).f0.f1 (l[i]).f0.f0 (l[i]).f0.f1 && chB (l.drop (i + 1 - 1))) := by
  have e : i - 1 + 1 = i := by omega
  rw [dropCons l (i - 1) (by omega), show i + 1 - 1 = i from by omega]
  simp only [e]
  rw [dropCons l i h]
  rfl
theorem ev_spec_validLog_l (l : List S30) (hn : l.length ≤ 4611686018427387900) (ht : ∀ x ∈ l, x.f7.size ≤ 9223372036854775807) : ∀ (d i : Nat), i + d = l.length → Ev (fun k => spec_validLog.l0 k l (i : Int)) ((l.drop i).all opvB && (chB (l.drop (i - 1)) && decide ((l.length : Int) ≤ 40))) := by
  intro d
  induction d with
  | zero =>
    intro i hi
    refine Ev.step (fun _ => rfl) (evElse (by omega) (evSome ?_))
    rw [List.drop_of_length_le (by omega), chB_end l i (by omega)]; rfl
  | succ d ih =>
    intro i hi
    have hl : i < l.length := by omega
    have hs := ht (l[i]) (List.getElem_mem hl)
    have hk := ih (i + 1) (by omega)
    refine Ev.step (fun _ => rfl) (evIf (by omega) (evIf (by omega) ?_))
    rw [rd_iop l i hl, nat1 i (by omega), dropCons l i hl, List.all_cons]
    refine evPut (a := opvB l[i]) (eq_spec_validOp _ _ _ _ _ _ _ _ _ _ _ _ hs) ?_
    cases h : opvB l[i] with
    | false => exact evElse (by simp) (evSome (by simp))
    | true =>
      refine evIf rfl ?_
      rw [Bool.true_and]
      by_cases h0 : 0 < i
      · have e : wrap64 ((i : Int) - 1) = ((i - 1 : Nat) : Int) := by rw [wrapId (by omega) (by omega)]; omega
        rw [e]
        refine evIf (by omega) (evIf (by omega) (evIf (by omega) ?_))
        rw [rd_iop l (i - 1) (by omega)]
        refine evPut (eq_spec_stampLessL _ _ _ _) ?_
        rw [chB_step l i h0 hl]
        cases h' : slt (l[i - 1]).f0.f0 (l[i - 1]).f0.f1 (l[i]).f0.f0 (l[i]).f0.f1 with
        | false => exact evElse (by simp) (evSome (by simp))
        | true => exact evIf rfl (evEq hk (by rw [Bool.true_and]))
      · obtain rfl : i = 0 := by omega
        exact evElse (by omega) (evEq hk (by rfl))
theorem ev_spec_validLog (l : List S30) (hn : l.length ≤ 4611686018427387900) (ht : ∀ x ∈ l, x.f7.size ≤ 9223372036854775807) : Ev (fun k => spec_validLog.f k l) (lgB l) := by
  unfold spec_validLog.f
  exact ev_spec_validLog_l l hn ht l.length 0 (by omega)
theorem ev_spec_ValidLog (l : List S30) (hn : l.length ≤ 4611686018427387900) (ht : ∀ x ∈ l, x.f7.size ≤ 9223372036854775807) : Ev (fun k => spec_ValidLog.f k l) (lgB l) := by
  unfold spec_ValidLog.f
  exact evBind (ev_spec_validLog l hn ht) (Ev.now _)
theorem ev_impl_ValidLog_l (l : List S30) (hn : l.length ≤ 4611686018427387900) (ht : ∀ x ∈ l, x.f7.size ≤ 9223372036854775807) : ∀ (d i : Nat), i + d = l.length → Ev (fun k => impl_ValidLog.l0 k l l (l.length : Int) (i : Int)) ((l.drop i).all opvB && (chB (l.drop (i - 1)) && decide ((l.length : Int) ≤ 40))) := by
  intro d
  induction d with
  | zero =>
    intro i hi
    refine Ev.step (fun _ => rfl) (evElse (by omega) (evSome ?_))
    rw [List.drop_of_length_le (by omega), chB_end l i (by omega)]; rfl
  | succ d ih =>
    intro i hi
    have hl : i < l.length := by omega
    have hs := ht (l[i]) (List.getElem_mem hl)
    have hk := ih (i + 1) (by omega)
    refine Ev.step (fun _ => rfl) (evIf (by omega) (evIf (by omega) (evIf (by omega) ?_)))
    rw [rd_iop l i hl, nat1 i (by omega), dropCons l i hl, List.all_cons]
    refine evPut (a := opvB l[i]) (eq_impl_ValidOp _ _ _ _ _ _ _ _ _ _ _ _ hs) ?_
    cases h : opvB l[i] with
    | false => exact evElse (by simp) (evSome (by simp))
    | true =>
      refine evIf rfl ?_
      rw [Bool.true_and]
      by_cases h0 : 0 < i
      · have e : wrap64 ((i : Int) - 1) = ((i - 1 : Nat) : Int) := by rw [wrapId (by omega) (by omega)]; omega
        rw [e]
        refine evIf (by omega) (evIf (by omega) (evIf (by omega) ?_))
        rw [rd_iop l (i - 1) (by omega)]
        refine evPut (mq_impl_StampLess _ _ _ _) ?_
        rw [chB_step l i h0 hl]
        cases h' : slt (l[i - 1]).f0.f0 (l[i - 1]).f0.f1 (l[i]).f0.f0 (l[i]).f0.f1 with
        | false => exact evElse (by simp) (evSome (by simp))
        | true => exact evIf rfl (evEq hk (by rw [Bool.true_and]))
      · obtain rfl : i = 0 := by omega
        exact evElse (by omega) (evEq hk (by rfl))
theorem ev_impl_ValidLog (l : List S30) (hn : l.length ≤ 4611686018427387900) (ht : ∀ x ∈ l, x.f7.size ≤ 9223372036854775807) : Ev (fun k => impl_ValidLog.f k l) (lgB l) := by
  unfold impl_ValidLog.f
  exact ev_impl_ValidLog_l l hn ht l.length 0 (by omega)
theorem FnExactValidLog : ∀ (l0 : List S25), l0.length ≤ maxLen → (∀ x ∈ l0, ((Lit.int .i64 x.f0.f0).wf = true ∧ (Lit.int .i64 x.f0.f1).wf = true) ∧ (Lit.int .i64 x.f1).wf = true ∧ ((Lit.int .i64 x.f2.f0).wf = true ∧ (Lit.int .i64 x.f2.f1).wf = true) ∧ ((Lit.int .i64 x.f3.f0).wf = true ∧ (Lit.int .i64 x.f3.f1).wf = true) ∧ ((Lit.int .i64 x.f4.f0).wf = true ∧ (Lit.int .i64 x.f4.f1).wf = true) ∧ (Lit.int .i64 x.f5).wf = true ∧ True ∧ x.f7.size ≤ maxLen) → ∃ k, laws_FnExactValidLog.f k l0 = some true := by
  intro l hl hq
  have hn : l.length ≤ 9223372036854775807 := by simp only [maxLen] at hl; omega
  have ht : ∀ x ∈ l, x.f7.size ≤ 9223372036854775807 := fun x hx => by have h := (hq x hx).2.2.2.2.2.2.2; simp only [maxLen] at h; omega
  apply Ev.rounds
  unfold laws_FnExactValidLog.f
  obtain ⟨r, er, hr⟩ := ev_laws_szOpS l hn ht 1048576 (by omega) (by omega)
  refine evBind er ?_
  by_cases h0 : r < 0
  · exact evIf h0 (Ev.now _)
  · obtain ⟨_, h1, h2⟩ := hr (by omega)
    have ln : (l.map cvOp).length ≤ 4611686018427387900 := by rw [List.length_map]; omega
    have lt : ∀ x ∈ l.map cvOp, x.f7.size ≤ 9223372036854775807 := fun x hx => by
      obtain ⟨y, hy, rfl⟩ := List.mem_map.mp hx
      exact ht y hy
    refine evElse h0 (evBind (ev_laws_toOpS l (by omega)) (evBind (ev_spec_ValidLog _ ln lt) (evBind (ev_laws_toOpS l (by omega)) (evBind (ev_impl_ValidLog _ ln lt) (evElse (by simp) (evBind (ev_laws_toOpS l (by omega)) (evBind (ev_laws_eqOpS _ ln) (evIf rfl (Ev.now _)))))))) )

end Go.Proofs.Ytomigiindmojkaa.Pure

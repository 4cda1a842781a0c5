/- The plain side of the statement FnExactDecodeStamp: the printed functions answer true at every input. Conditions: none beyond the given statement's own. -/
import Derived.Test.YtpjbkdhehdpapaaQDx3
import Derived.Test.YtpjbkdhehdpapaaBase
namespace Go.Proofs.Ytpjbkdhehdpapaa.Pure
open Go.RowKit Go.Proofs.Ytpjbkdhehdpapaa.QD Go.Proofs.YtpjbkdhehdpapaaW.PrintWords Go.Proofs.YtpjbkdhehdpapaaW.PrintLast Go.Proofs.Ytpjbkdhehdpapaa.Base
set_option linter.unusedVariables false
set_option linter.unusedSimpArgs false

def inV (x : Int) : Bool := decide (0 ≤ x ∧ x ≤ 99)
/-- A valid vector: three entries of 0 to 99. -/
def vv (l : List Int) : Bool := l.all inV && decide (l.length = 3)
theorem vv_length {l : List Int} (h : vv l = true) : l.length = 3 := by
  simp only [vv, Bool.and_eq_true, decide_eq_true_eq] at h
  exact h.2
theorem vv_form {l : List Int} (h : vv l = true) : ∃ a b c, l = [a, b, c] ∧ (0 ≤ a ∧ a ≤ 99) ∧ (0 ≤ b ∧ b ≤ 99) ∧ (0 ≤ c ∧ c ≤ 99) := by
  have hl := vv_length h
  match l, hl with
  | [a, b, c], _ =>
    simp [vv, inV] at h
    exact ⟨a, b, c, rfl, h⟩
def iota (a : Int) (n : Nat) : List Int := (List.range n).map fun i : Nat => a + (i : Int)
theorem iota_length (a : Int) (n : Nat) : (iota a n).length = n := by simp [iota]
theorem iota_succ (a : Int) (n : Nat) : iota a (n + 1) = a :: iota (a + 1) n := by
  simp only [iota, List.range_succ_eq_map, List.map_cons, List.map_map]
  congr 1
  · simp
  · apply List.map_congr_left; intro i _; simp only [Function.comp]; omega
theorem eq_spec_inRange (a lo hi : Int) : spec_inRange.f a lo hi = some (decide (lo ≤ a ∧ a ≤ hi)) := by
  unfold spec_inRange.f
  by_cases h : lo ≤ a <;> simp [h]
/-- Every entry of a is at most that of b (of equal lengths). -/
def leL : List Int → List Int → Bool
  | a :: l, b :: m => decide (a ≤ b) && leL l m
  | _, _ => true
def vle (a b : List Int) : Bool := vv a && (vv b && leL a b)
def maxL (a b : List Int) : List Int := List.zipWith mx a b
def minL (a b : List Int) : List Int := List.zipWith mn a b
def mostL (l : List Int) (m : Int) : Int := l.foldl mx m
theorem mostL_cons (a : Int) (l : List Int) (m : Int) : mostL (a :: l) m = mostL l (mx m a) := rfl
def nextS (l : List Int) (who : Int) : Int × Int := if vv l = true ∧ 0 ≤ who ∧ who ≤ 2 then (if 99 ≤ mostL l 0 then (0, 0) else (mostL l 0 + 1, who)) else (0, 0)
theorem mx_range {a b : Int} (h : 0 ≤ a ∧ a ≤ 99) (k : 0 ≤ b ∧ b ≤ 99) : 0 ≤ mx a b ∧ mx a b ≤ 99 := by unfold mx; omega
theorem mostL_range : ∀ (l : List Int) (m : Int), l.all inV = true → 0 ≤ m ∧ m ≤ 99 → 0 ≤ mostL l m ∧ mostL l m ≤ 99
  | [], m, _, hm => hm
  | a :: l, m, h, hm => by
    simp only [List.all_cons, Bool.and_eq_true] at h
    have ha : 0 ≤ a ∧ a ≤ 99 := by simpa [inV] using h.1
    exact mostL_range l (mx m a) h.2 (mx_range hm ha)
theorem vv_all {l : List Int} (h : vv l = true) : l.all inV = true := by
  simp only [vv, Bool.and_eq_true] at h
  exact h.1
theorem inV_get {l : List Int} (h : l.all inV = true) (i : Nat) (hi : i < l.length) : 0 ≤ l[i] ∧ l[i] ≤ 99 := by
  have := (List.all_eq_true.1 h) l[i] (List.getElem_mem hi)
  simpa [inV] using this
theorem eq_impl_isAuthor (a : Int) : impl_isAuthor.f a = some (decide (0 ≤ a ∧ a ≤ 2)) := by
  unfold impl_isAuthor.f
  by_cases h : 0 ≤ a
  · rw [if_pos h]
    by_cases h' : a ≤ 2
    · rw [decide_eq_true (show a < 3 by omega), decide_eq_true (⟨h, h'⟩ : 0 ≤ a ∧ a ≤ 2)]
    · rw [decide_eq_false (show ¬ a < 3 by omega), decide_eq_false (fun hh => h' hh.2)]
  · rw [if_neg h, decide_eq_false (fun hh => h hh.1)]
theorem eq_laws_eqStamp (a b c d : Int) : laws_eqStamp.f a b c d = some (decide ((a, b) = (c, d))) := by
  unfold laws_eqStamp.f
  by_cases h : a = c <;> by_cases h' : b = d <;> simp [h, h']
theorem xorOk (a b : Int) (ha : 0 ≤ a ∧ a < 4611686018427387904) (hb : 0 ≤ b ∧ b < 4611686018427387904) : 0 ≤ Go.bits .xor .i64 a b := by
  obtain ⟨x, rfl⟩ := Int.eq_ofNat_of_zero_le ha.1
  obtain ⟨y, rfl⟩ := Int.eq_ofNat_of_zero_le hb.1
  have hx : x < 2 ^ 62 := by omega
  have hy : y < 2 ^ 62 := by omega
  have hz := Nat.xor_lt_two_pow hx hy
  have e : Go.bits .xor .i64 (x : Int) (y : Int) = ((x ^^^ y : Nat) : Int) := by
    simp only [Go.bits, BitVec.ofInt_natCast, BitVec.toNat_xor, BitVec.toNat_ofNat]
    rw [Nat.mod_eq_of_lt (show x < 2 ^ IntKind.i64.bits from Nat.lt_of_lt_of_le hx (by decide)), Nat.mod_eq_of_lt (show y < 2 ^ IntKind.i64.bits from Nat.lt_of_lt_of_le hy (by decide)), IntKind.wrap_i64]
    omega
  rw [e]; omega
/-- What a reader may hold: at most 2000 bytes. -/
structure BOk (b : List Int) : Prop where
  len : b.length ≤ 2000
  byte : ∀ x ∈ b, 0 ≤ x ∧ x ≤ 255
theorem BOk.rd {b : List Int} (h : BOk b) {i : Int} (h0 : 0 ≤ i) (h1 : i < b.length) : 0 ≤ Go.Proofs.YtpjbkdhehdpapaaW.PrintWords.rd b i ∧ Go.Proofs.YtpjbkdhehdpapaaW.PrintWords.rd b i ≤ 255 := by
  obtain ⟨n, rfl⟩ := Int.eq_ofNat_of_zero_le h0
  rw [rdAt _ _ (by omega)]
  exact h.byte _ (List.getElem_mem _)
theorem wf_u8 {l : List Int} (h : ∀ x ∈ l, (Lit.int .u8 x).wf = true) : ∀ x ∈ l, 0 ≤ x ∧ x ≤ 255 := fun x hx => by
  have := h x hx
  simp [Lit.wf, IntKind.min, IntKind.max, IntKind.bits, IntKind.signed] at this
  omega
/-- A call that draws: it comes to its answer v and moves the place on from p by at most m. -/
def Draws {α : Type} (g : Nat → Option (α × Int)) (p m : Int) (P : α → Prop) : Prop := ∃ v q, Ev g (v, q) ∧ p ≤ q ∧ q ≤ p + m ∧ P v
def schB (a b : Int) : Bool := decide ((a = 0 ∧ (b = 1 ∨ b = 2 ∨ b = 3)) ∨ (a = 3 ∧ b = 4) ∨ (a = 4 ∧ (b = 1 ∨ b = 3)))
def vst (q a : Int) : Bool := decide ((1 ≤ q ∧ q ≤ 99) ∧ 0 ≤ a ∧ a ≤ 2)
def slt (q a q' a' : Int) : Bool := decide (q < q' ∨ (q = q' ∧ a < a'))
theorem eq_spec_validStamp (a b : Int) : spec_validStamp.f a b = some (vst a b) := by
  unfold spec_validStamp.f vst
  simp only [eq_spec_inRange, Option.bind_some]
  by_cases h : 1 ≤ a ∧ a ≤ 99
  · simp only [h, decide_true, if_true, and_self, true_and]
  · simp only [h, decide_false, Bool.false_eq_true, if_false, false_and]
theorem eq_impl_ValidStamp (a b : Int) : impl_ValidStamp.f a b = some (vst a b) := by
  unfold impl_ValidStamp.f vst
  simp only [eq_impl_isAuthor, Option.bind_some]
  by_cases h : 1 ≤ a
  · by_cases h' : a ≤ 99
    · simp only [ge_iff_le, h, h', if_true, and_self, true_and]
    · simp only [ge_iff_le, h, h', if_true, if_false, and_false, false_and, decide_false]
  · simp only [ge_iff_le, h, if_false, false_and, decide_false]
/-- The vector covers the stamp. -/
def vco (l : List Int) (q a : Int) : Bool := vv l && (vst q a && decide (q ≤ rd l a))
theorem mostL_self (l : List Int) : ∀ m, m ≤ mostL l m := by
  induction l with
  | nil => intro m; exact Int.le_refl _
  | cons a l ih =>
    intro m
    rw [mostL_cons]
    have := ih (mx m a)
    have : m ≤ mx m a := by unfold mx; omega
    omega
theorem mostL_mem (l : List Int) : ∀ m (i : Nat) (h : i < l.length), l[i] ≤ mostL l m := by
  induction l with
  | nil => intro m i h; simp at h
  | cons a l ih =>
    intro m i h
    rw [mostL_cons]
    cases i with
    | zero =>
      have := mostL_self l (mx m a)
      have : a ≤ mx m a := by unfold mx; omega
      simp; omega
    | succ i => simpa using ih (mx m a) i (by simpa using h)
theorem nextS_some {c : List Int} {who : Int} (h : ¬ ((nextS c who).1 = 0 ∧ (nextS c who).2 = 0)) : vv c = true ∧ 0 ≤ who ∧ who ≤ 2 ∧ nextS c who = (mostL c 0 + 1, who) ∧ 0 ≤ mostL c 0 ∧ mostL c 0 < 99 := by
  unfold nextS at h ⊢
  split at h
  · rename_i hc
    split at h
    · exact absurd ⟨rfl, rfl⟩ h
    · rename_i h9
      have := mostL_range c 0 (vv_all hc.1) (by omega)
      rw [if_pos hc, if_neg h9]
      exact ⟨hc.1, hc.2.1, hc.2.2, rfl, this.1, by omega⟩
  · exact absurd ⟨rfl, rfl⟩ h
theorem vco_le {c : List Int} {q a : Int} (h : vco c q a = true) : q ≤ mostL c 0 := by
  simp only [vco, Bool.and_eq_true, decide_eq_true_eq] at h
  obtain ⟨h1, h2, h3⟩ := h
  have hl := vv_length h1
  simp only [vst, decide_eq_true_eq] at h2
  obtain ⟨n, rfl⟩ := Int.eq_ofNat_of_zero_le h2.2.1
  rw [rdAt _ _ (by omega)] at h3
  have := mostL_mem c 0 n (by omega)
  omega
theorem rd3_0 (x y z : Int) : rd [x, y, z] 0 = x := rfl
theorem rd3_1 (x y z : Int) : rd [x, y, z] 1 = y := rfl
theorem rd3_2 (x y z : Int) : rd [x, y, z] 2 = z := rfl
theorem vv_mk {x y z : Int} (hx : 0 ≤ x ∧ x ≤ 99) (hy : 0 ≤ y ∧ y ≤ 99) (hz : 0 ≤ z ∧ z ≤ 99) : vv [x, y, z] = true := by simp [vv, inV, hx, hy, hz]
theorem mn_range {a b : Int} (h : 0 ≤ a ∧ a ≤ 99) (k : 0 ≤ b ∧ b ≤ 99) : 0 ≤ mn a b ∧ mn a b ≤ 99 := by unfold mn; omega
theorem vst_at {q a : Int} (h : vst q a = true) : a = 0 ∨ a = 1 ∨ a = 2 := by
  simp only [vst, decide_eq_true_eq] at h; omega
theorem vv_max {a b : List Int} (ha : vv a = true) (hb : vv b = true) : vv (maxL a b) = true := by
  obtain ⟨a1, a2, a3, rfl, h1, h2, h3⟩ := vv_form ha
  obtain ⟨b1, b2, b3, rfl, k1, k2, k3⟩ := vv_form hb
  exact vv_mk (mx_range h1 k1) (mx_range h2 k2) (mx_range h3 k3)
theorem vv_min {a b : List Int} (ha : vv a = true) (hb : vv b = true) : vv (minL a b) = true := by
  obtain ⟨a1, a2, a3, rfl, h1, h2, h3⟩ := vv_form ha
  obtain ⟨b1, b2, b3, rfl, k1, k2, k3⟩ := vv_form hb
  exact vv_mk (mn_range h1 k1) (mn_range h2 k2) (mn_range h3 k3)
theorem le_mx (q a b : Int) : decide (q ≤ mx a b) = (decide (q ≤ a) || decide (q ≤ b)) := by
  rw [Bool.eq_iff_iff]; simp only [Bool.or_eq_true, decide_eq_true_eq]; unfold mx; omega
theorem le_mn (q a b : Int) : decide (q ≤ mn a b) = (decide (q ≤ a) && decide (q ≤ b)) := by
  rw [Bool.eq_iff_iff]; simp only [Bool.and_eq_true, decide_eq_true_eq]; unfold mn; omega
theorem vco_max {a b : List Int} (ha : vv a = true) (hb : vv b = true) (q c : Int) : vco (maxL a b) q c = (vco a q c || vco b q c) := by
  cases hs : vst q c with
  | false => simp [vco, hs]
  | true =>
    simp only [vco, vv_max ha hb, ha, hb, hs, Bool.true_and]
    obtain ⟨a1, a2, a3, rfl, _⟩ := vv_form ha
    obtain ⟨b1, b2, b3, rfl, _⟩ := vv_form hb
    rcases vst_at hs with rfl | rfl | rfl <;> exact le_mx _ _ _
theorem vco_min {a b : List Int} (ha : vv a = true) (hb : vv b = true) (q c : Int) : vco (minL a b) q c = (vco a q c && vco b q c) := by
  cases hs : vst q c with
  | false => simp [vco, hs]
  | true =>
    simp only [vco, vv_min ha hb, ha, hb, hs, Bool.true_and]
    obtain ⟨a1, a2, a3, rfl, _⟩ := vv_form ha
    obtain ⟨b1, b2, b3, rfl, _⟩ := vv_form hb
    rcases vst_at hs with rfl | rfl | rfl <;> exact le_mn _ _ _
theorem mx_comm (a b : Int) : mx a b = mx b a := by unfold mx; omega
theorem mn_comm (a b : Int) : mn a b = mn b a := by unfold mn; omega
theorem maxL_comm (a : List Int) : ∀ b, maxL a b = maxL b a := by
  induction a with
  | nil => intro b; cases b <;> rfl
  | cons x a ih => intro b; cases b with
    | nil => rfl
    | cons y b => simp only [maxL, List.zipWith_cons_cons, mx_comm x y]; exact congrArg _ (ih b)
theorem minL_comm (a : List Int) : ∀ b, minL a b = minL b a := by
  induction a with
  | nil => intro b; cases b <;> rfl
  | cons x a ih => intro b; cases b with
    | nil => rfl
    | cons y b => simp only [minL, List.zipWith_cons_cons, mn_comm x y]; exact congrArg _ (ih b)
theorem leL_min_max (a : List Int) : ∀ b, leL (minL a b) (maxL a b) = true := by
  induction a with
  | nil => intro b; cases b <;> rfl
  | cons x a ih => intro b; cases b with
    | nil => rfl
    | cons y b =>
      simp only [minL, maxL, List.zipWith_cons_cons, leL, Bool.and_eq_true, decide_eq_true_eq]
      exact ⟨by unfold mn mx; omega, ih b⟩
theorem leL_iff (a : List Int) : ∀ b, a.length = b.length → leL a b = decide (maxL a b = b) := by
  induction a with
  | nil => intro b h; cases b with
    | nil => rfl
    | cons y b => simp at h
  | cons x a ih => intro b h; cases b with
    | nil => simp at h
    | cons y b =>
      have := ih b (by simpa using h)
      simp only [leL, maxL, List.zipWith_cons_cons, List.cons.injEq, this, Bool.decide_and]
      congr 1
      rw [Bool.eq_iff_iff]; simp only [decide_eq_true_eq]; unfold mx; omega
theorem leL_antisymm (a : List Int) : ∀ b, a.length = b.length → (leL a b && leL b a) = decide (a = b) := by
  induction a with
  | nil => intro b h; cases b with
    | nil => rfl
    | cons y b => simp at h
  | cons x a ih => intro b h; cases b with
    | nil => simp at h
    | cons y b =>
      have := ih b (by simpa using h)
      rw [Bool.eq_iff_iff] at this ⊢
      simp only [leL, List.cons.injEq, Bool.and_eq_true, decide_eq_true_eq] at this ⊢
      rw [← this]
      constructor
      · rintro ⟨⟨h1, h2⟩, h3, h4⟩; exact ⟨by omega, h2, h4⟩
      · rintro ⟨rfl, h2, h4⟩; exact ⟨⟨by omega, h2⟩, by omega, h4⟩
theorem vco_mono {a b : List Int} (ha : vv a = true) (hb : vv b = true) (h : leL a b = true) {q c : Int} (hc : vco a q c = true) : vco b q c = true := by
  rw [leL_iff a b (by rw [vv_length ha, vv_length hb]), decide_eq_true_eq] at h
  rw [← h, vco_max ha hb, hc]; rfl
theorem strOfNums_app (xs ys : List Int) : strOfNums xs ++ strOfNums ys = strOfNums (xs ++ ys) := by
  apply ByteArray.ext
  apply Array.ext'
  simp [strOfNums]
theorem strOfNums_list (xs : List Int) : (strOfNums xs).toList = xs.map fun n => UInt8.ofNat n.toNat := by
  rw [ByteArray.toList_eq]; rfl
/-- A number of 0 to 99 in decimal, as bytes. -/
def dec (q : Int) : List Int := if q < 10 then [48 + q] else [48 + q / 10, 48 + q % 10]
/-- A valid stamp's text, as bytes. -/
def encL (q a : Int) : List Int := dec q ++ [97 + a]
theorem dec_length (q : Int) : 1 ≤ (dec q).length ∧ (dec q).length ≤ 2 := by unfold dec; split <;> simp
/-- The text of a stamp, valid or zero, else the empty text. -/
def encS (q a : Int) : ByteArray := if vst q a = true then strOfNums (encL q a) else if q = 0 ∧ a = 0 then ⟨#[45]⟩ else ⟨#[]⟩
theorem encS_size (q a : Int) : (encS q a).size ≤ 3 := by
  unfold encS
  split
  · rw [strOfNums_size]; have := dec_length q; simp [encL]; omega
  · split
    · decide
    · decide
theorem byteBack (x : UInt8) (n : Int) (h : n = (x.toNat : Int)) : UInt8.ofNat n.toNat = x := by
  subst h; simp
/-- One digit; two digits without a leading zero. -/
def num1 (x : UInt8) : Option Int := if 48 ≤ (x.toNat : Int) ∧ (x.toNat : Int) ≤ 57 then some ((x.toNat : Int) - 48) else none
def num2 (x y : UInt8) : Option Int := if (49 ≤ (x.toNat : Int) ∧ (x.toNat : Int) ≤ 57) ∧ 48 ≤ (y.toNat : Int) ∧ (y.toNat : Int) ≤ 57 then some (((x.toNat : Int) - 48) * 10 + ((y.toNat : Int) - 48)) else none
theorem bt1 (x : UInt8) : bt ⟨#[x]⟩ 0 = (x.toNat : Int) := (bt_at ⟨#[x]⟩ 0 (show (0 : Nat) < 1 by omega)).symm
theorem sz1 (x : UInt8) : ((⟨#[x]⟩ : ByteArray).size : Int) = 1 := rfl
theorem sz2 (x y : UInt8) : ((⟨#[x, y]⟩ : ByteArray).size : Int) = 2 := rfl
theorem w0 : wrap64 0 = 0 := wrapId (by omega) (by omega)
theorem w01 : wrap64 (0 + 1) = 1 := wrapId (by omega) (by omega)
theorem w11 : wrap64 (1 + 1) = 2 := wrapId (by omega) (by omega)
theorem bt2_0 (x y : UInt8) : bt ⟨#[x, y]⟩ 0 = (x.toNat : Int) := (bt_at ⟨#[x, y]⟩ 0 (show (0 : Nat) < 2 by omega)).symm
theorem bt2_1 (x y : UInt8) : bt ⟨#[x, y]⟩ 1 = (y.toNat : Int) := (bt_at ⟨#[x, y]⟩ 1 (show (1 : Nat) < 2 by omega)).symm
theorem ev_spec_formatInt1 (q : Int) (h0 : 0 ≤ q) (h1 : q < 10) : Ev (fun k => spec_formatInt.f k q) (strOfNums [48 + q]) := by
  refine Ev.step (fun _ => rfl) (evElse (by omega) (evElse (by omega) (evIf (by omega) (evSome ?_))))
  rw [wrapId (by omega) (by omega)]
  congr 1
  rw [Int.emod_eq_of_lt (by omega) (by omega)]
theorem ev_spec_formatInt (q : Int) (h0 : 0 ≤ q) (h1 : q ≤ 99) : Ev (fun k => spec_formatInt.f k q) (strOfNums (dec q)) := by
  unfold dec
  by_cases h : q < 10
  · rw [if_pos h]; exact ev_spec_formatInt1 q h0 h
  rw [if_neg h]
  have e1 : wrap64 (Int.tdiv q 10) = q / 10 := by rw [Int.tdiv_eq_ediv_of_nonneg h0, wrapId (by omega) (by omega)]
  have e2 : wrap64 (48 + Int.tmod q 10) % 256 = 48 + q % 10 := by rw [Int.tmod_eq_emod_of_nonneg h0, wrapId (by omega) (by omega), Int.emod_eq_of_lt (by omega) (by omega)]
  refine Ev.step (fun _ => rfl) (evElse (by omega) (evElse (by omega) (evElse (by omega) ?_)))
  rw [e1, e2]
  refine evBind (ev_spec_formatInt1 (q / 10) (by omega) (by omega)) (evPut rfl (evIf (by simp only [strOfNums_size]; simp) (evSome ?_)))
  rw [strOfNums_app]; rfl
theorem ev_spec_formatStamp (q a : Int) (h : vst q a = true) : Ev (fun k => spec_formatStamp.f k q a) (strOfNums (encL q a)) := by
  simp only [vst, decide_eq_true_eq] at h
  unfold spec_formatStamp.f
  refine evElse (by omega) (evBind (ev_spec_formatInt q (by omega) (by omega)) (evPut rfl (evIf ?_ (evSome ?_))))
  · have := dec_length q
    simp only [strOfNums_size, List.length_singleton]; omega
  · rw [wrapId (by omega) (by omega), Int.emod_eq_of_lt (by omega) (by omega), strOfNums_app]; rfl
theorem ev_spec_EncodeStamp (q a : Int) : Ev (fun k => spec_EncodeStamp.f k q a) (encS q a) := by
  unfold spec_EncodeStamp.f encS
  refine evPut (eq_spec_validStamp _ _) ?_
  cases h : vst q a with
  | true => exact evIf (by rfl) (evBind (ev_spec_formatStamp q a h) (Ev.now _))
  | false =>
    refine evElse (by simp) ?_
    by_cases hz : q = 0 ∧ a = 0
    · obtain ⟨rfl, rfl⟩ := hz
      refine evElse (by simp) ?_
      have e : ∀ k, spec_formatStamp.f k 0 0 = some ⟨#[45]⟩ := fun k => by unfold spec_formatStamp.f; simp
      exact evBind (Ev.congr e (Ev.now _)) (Ev.now _)
    · refine evIf (by simp; omega) (evSome ?_)
      rw [if_neg (by simp), if_neg hz]
theorem ok_spec_parseUint_l0 (s : ByteArray) (hn : s.size ≤ 2000000) : ∀ (d i : Nat) (x : Int), i + d = s.size → ∃ v, Ev (fun k => spec_parseUint.l0 k s x (i : Int)) v := by
  intro d
  induction d with
  | zero =>
    intro i x hi
    by_cases c0 : (s.size : Int) = 0
    · exact ⟨_, Ev.step (fun _ => rfl) (evElse (by omega) (evIf c0 (Ev.now _)))⟩
    by_cases c1 : (s.size : Int) > 1
    · by_cases c2 : bt s 0 = 48
      · exact ⟨_, Ev.step (fun _ => rfl) (evElse (by omega) (evElse c0 (evIf c1 (evIf (by omega) (evIf c2 (Ev.now _))))))⟩
      · exact ⟨_, Ev.step (fun _ => rfl) (evElse (by omega) (evElse c0 (evIf c1 (evIf (by omega) (evElse c2 (Ev.now _))))))⟩
    · exact ⟨_, Ev.step (fun _ => rfl) (evElse (by omega) (evElse c0 (evElse c1 (Ev.now _))))⟩
  | succ d ih =>
    intro i x hi
    by_cases c0 : bt s (i : Int) < 48
    · exact ⟨_, Ev.step (fun _ => rfl) (evIf (by omega) (evIf (by omega) (evIf c0 (Ev.now _))))⟩
    by_cases c1 : bt s (i : Int) > 57
    · exact ⟨_, Ev.step (fun _ => rfl) (evIf (by omega) (evIf (by omega) (evElse c0 (evIf c1 (Ev.now _)))))⟩
    by_cases c2 : (i : Int) ≥ 6
    · exact ⟨_, Ev.step (fun _ => rfl) (evIf (by omega) (evIf (by omega) (evElse c0 (evElse c1 (evIf c2 (Ev.now _))))))⟩
    · obtain ⟨v, hv⟩ := ih (i + 1) (wrap64 (wrap64 (x * 10) + (bt s (i : Int) - 48) % 256)) (by omega)
      refine ⟨v, Ev.step (fun _ => rfl) (evIf (by omega) (evIf (by omega) (evElse c0 (evElse c1 (evElse c2 ?_)))))⟩
      rw [wrapSucc i (by omega)]
      exact hv
theorem ok_spec_parseUint (s : ByteArray) (hn : s.size ≤ 2000000) : ∃ v, Ev (fun k => spec_parseUint.f k s) v := ok_spec_parseUint_l0 s hn s.size 0 0 (by omega)
theorem ev_spec_parseUint1 (x : UInt8) : Ev (fun k => spec_parseUint.f k ⟨#[x]⟩) ((num1 x).getD (-1)) := by
  have hb := bt1 x
  have s1 := sz1 x
  have w1 := w01
  have hx := x.toNat_lt
  unfold spec_parseUint.f num1
  by_cases c0 : (x.toNat : Int) < 48
  · rw [if_neg (by omega)]
    exact Ev.step (fun _ => rfl) (evIf (by omega) (evIf (by omega) (evIf (by rw [hb]; exact c0) (Ev.now _))))
  by_cases c1 : (x.toNat : Int) > 57
  · rw [if_neg (by omega)]
    exact Ev.step (fun _ => rfl) (evIf (by omega) (evIf (by omega) (evElse (by rw [hb]; exact c0) (evIf (by rw [hb]; exact c1) (Ev.now _)))))
  rw [if_pos (by omega)]
  refine Ev.step (fun _ => rfl) (evIf (by omega) (evIf (by omega) (evElse (by rw [hb]; exact c0) (evElse (by rw [hb]; exact c1) (evElse (by omega) ?_)))))
  refine Ev.step (fun _ => rfl) (evElse (by omega) (evElse (by omega) (evElse (by omega) (evSome ?_))))
  rw [hb, Int.emod_eq_of_lt (by omega) (by omega)]
  simp only [Int.zero_mul]
  rw [w0, wrapId (by omega) (by omega)]
  simp
theorem ev_spec_parseUint2 (x y : UInt8) : Ev (fun k => spec_parseUint.f k ⟨#[x, y]⟩) ((num2 x y).getD (-1)) := by
  have hb := bt2_0 x y
  have s2 := sz2 x y
  have w1 := w01
  have w2 := w11
  have hc := bt2_1 x y
  have hx := x.toNat_lt
  have hy := y.toNat_lt
  unfold spec_parseUint.f num2
  by_cases c0 : (x.toNat : Int) < 48
  · rw [if_neg (by omega)]
    exact Ev.step (fun _ => rfl) (evIf (by omega) (evIf (by omega) (evIf (by rw [hb]; exact c0) (Ev.now _))))
  by_cases c1 : (x.toNat : Int) > 57
  · rw [if_neg (by omega)]
    exact Ev.step (fun _ => rfl) (evIf (by omega) (evIf (by omega) (evElse (by rw [hb]; exact c0) (evIf (by rw [hb]; exact c1) (Ev.now _)))))
  refine Ev.step (fun _ => rfl) (evIf (by omega) (evIf (by omega) (evElse (by rw [hb]; exact c0) (evElse (by rw [hb]; exact c1) (evElse (by omega) ?_)))))
  rw [hb, Int.emod_eq_of_lt (show 0 ≤ (x.toNat : Int) - 48 by omega) (by omega)]
  simp only [Int.zero_mul]
  rw [w0, Int.zero_add, wrapId (x := (x.toNat : Int) - 48) (by omega) (by omega), w01]
  by_cases d0 : (y.toNat : Int) < 48
  · rw [if_neg (by omega)]
    exact Ev.step (fun _ => rfl) (evIf (by omega) (evIf (by omega) (evIf (by rw [hc]; exact d0) (Ev.now _))))
  by_cases d1 : (y.toNat : Int) > 57
  · rw [if_neg (by omega)]
    exact Ev.step (fun _ => rfl) (evIf (by omega) (evIf (by omega) (evElse (by rw [hc]; exact d0) (evIf (by rw [hc]; exact d1) (Ev.now _)))))
  refine Ev.step (fun _ => rfl) (evIf (by omega) (evIf (by omega) (evElse (by rw [hc]; exact d0) (evElse (by rw [hc]; exact d1) (evElse (by omega) ?_)))))
  rw [hc, Int.emod_eq_of_lt (show 0 ≤ (y.toNat : Int) - 48 by omega) (by omega), wrapId (x := ((x.toNat : Int) - 48) * 10) (by omega) (by omega), wrapId (x := ((x.toNat : Int) - 48) * 10 + ((y.toNat : Int) - 48)) (by omega) (by omega), w11]
  by_cases z : (x.toNat : Int) = 48
  · rw [if_neg (by omega)]
    exact Ev.step (fun _ => rfl) (evElse (by omega) (evElse (by omega) (evIf (by omega) (evIf (by omega) (evIf (by rw [hb]; exact z) (Ev.now _))))))
  · rw [if_pos (by omega)]
    exact Ev.step (fun _ => rfl) (evElse (by omega) (evElse (by omega) (evIf (by omega) (evIf (by omega) (evElse (by rw [hb]; exact z) (Ev.now _))))))
theorem ev_impl_number1 (x : UInt8) : Ev (fun k => impl_number.f k ⟨#[x]⟩) (match num1 x with | some n => (n, true) | none => (0, false)) := by
  have hb := bt1 x
  have s1 := sz1 x
  have w1 := w01
  have hx := x.toNat_lt
  unfold impl_number.f num1
  refine evElse (by omega) (evElse (by omega) (evElse (by omega) (evSucc ?_)))
  simp only [impl_number.j0, Bool.false_eq_true, if_false]
  by_cases c0 : (x.toNat : Int) < 48
  · rw [if_neg (by omega)]
    exact Ev.step (fun _ => rfl) (evIf (by omega) (evIf (by omega) (evIf (by rw [hb]; exact c0) (Ev.now _))))
  by_cases c1 : (x.toNat : Int) > 57
  · rw [if_neg (by omega)]
    exact Ev.step (fun _ => rfl) (evIf (by omega) (evIf (by omega) (evElse (by rw [hb]; exact c0) (evIf (by rw [hb]; exact c1) (Ev.now _)))))
  rw [if_pos (by omega)]
  refine Ev.step (fun _ => rfl) (evIf (by omega) (evIf (by omega) (evElse (by rw [hb]; exact c0) (evElse (by rw [hb]; exact c1) ?_))))
  refine Ev.step (fun _ => rfl) (evElse (by omega) (evSome ?_))
  rw [hb, Int.emod_eq_of_lt (by omega) (by omega)]
  simp only [Int.zero_mul]
  rw [w0, wrapId (by omega) (by omega)]
  simp
theorem ev_impl_number2 (x y : UInt8) : Ev (fun k => impl_number.f k ⟨#[x, y]⟩) (match num2 x y with | some n => (n, true) | none => (0, false)) := by
  have hb := bt2_0 x y
  have s2 := sz2 x y
  have w1 := w01
  have w2 := w11
  have hc := bt2_1 x y
  have hx := x.toNat_lt
  have hy := y.toNat_lt
  unfold impl_number.f num2
  refine evElse (by omega) (evElse (by omega) (evIf (by omega) (evIf (by omega) ?_)))
  by_cases z : (x.toNat : Int) = 48
  · rw [if_neg (by omega), hb, show ((x.toNat : Int) == 48) = true from by simp [z]]
    exact evSucc (by simp only [impl_number.j0, if_true]; exact Ev.now _)
  rw [hb, show ((x.toNat : Int) == 48) = false from by simp [z]]
  refine evSucc ?_
  simp only [impl_number.j0, Bool.false_eq_true, if_false]
  by_cases c0 : (x.toNat : Int) < 48
  · rw [if_neg (by omega)]
    exact Ev.step (fun _ => rfl) (evIf (by omega) (evIf (by omega) (evIf (by rw [hb]; exact c0) (Ev.now _))))
  by_cases c1 : (x.toNat : Int) > 57
  · rw [if_neg (by omega)]
    exact Ev.step (fun _ => rfl) (evIf (by omega) (evIf (by omega) (evElse (by rw [hb]; exact c0) (evIf (by rw [hb]; exact c1) (Ev.now _)))))
  refine Ev.step (fun _ => rfl) (evIf (by omega) (evIf (by omega) (evElse (by rw [hb]; exact c0) (evElse (by rw [hb]; exact c1) ?_))))
  rw [hb, Int.emod_eq_of_lt (show 0 ≤ (x.toNat : Int) - 48 by omega) (by omega)]
  simp only [Int.zero_mul]
  rw [w0, Int.zero_add, wrapId (x := (x.toNat : Int) - 48) (by omega) (by omega), w01]
  by_cases d0 : (y.toNat : Int) < 48
  · rw [if_neg (by omega)]
    exact Ev.step (fun _ => rfl) (evIf (by omega) (evIf (by omega) (evIf (by rw [hc]; exact d0) (Ev.now _))))
  by_cases d1 : (y.toNat : Int) > 57
  · rw [if_neg (by omega)]
    exact Ev.step (fun _ => rfl) (evIf (by omega) (evIf (by omega) (evElse (by rw [hc]; exact d0) (evIf (by rw [hc]; exact d1) (Ev.now _)))))
  rw [if_pos (by omega)]
  refine Ev.step (fun _ => rfl) (evIf (by omega) (evIf (by omega) (evElse (by rw [hc]; exact d0) (evElse (by rw [hc]; exact d1) ?_))))
  rw [hc, Int.emod_eq_of_lt (show 0 ≤ (y.toNat : Int) - 48 by omega) (by omega), wrapId (x := ((x.toNat : Int) - 48) * 10) (by omega) (by omega), wrapId (x := ((x.toNat : Int) - 48) * 10 + ((y.toNat : Int) - 48)) (by omega) (by omega), w11]
  exact Ev.step (fun _ => rfl) (evElse (by omega) (Ev.now _))
/-- What decoding a text gives: the stamp and whether it is one. -/
def decS : List UInt8 → Int × Int × Bool
  | [c] => if c = 45 then (0, 0, true) else (0, 0, false)
  | [x, c] => match num1 x with | some n => if vst n ((c.toNat : Int) - 97) = true then (n, (c.toNat : Int) - 97, true) else (0, 0, false) | none => (0, 0, false)
  | [x, y, c] => match num2 x y with | some n => if vst n ((c.toNat : Int) - 97) = true then (n, (c.toNat : Int) - 97, true) else (0, 0, false) | none => (0, 0, false)
  | _ => (0, 0, false)
theorem decS_1 (c : UInt8) : decS [c] = if c = 45 then (0, 0, true) else (0, 0, false) := rfl
theorem decS_2 (x c : UInt8) : decS [x, c] = match num1 x with | some n => if vst n ((c.toNat : Int) - 97) = true then (n, (c.toNat : Int) - 97, true) else (0, 0, false) | none => (0, 0, false) := rfl
theorem decS_3 (x y c : UInt8) : decS [x, y, c] = match num2 x y with | some n => if vst n ((c.toNat : Int) - 97) = true then (n, (c.toNat : Int) - 97, true) else (0, 0, false) | none => (0, 0, false) := rfl
theorem wrapByte (c : UInt8) : wrap64 (wrap64 (c.toNat : Int) - 97) = (c.toNat : Int) - 97 := by
  have := c.toNat_lt
  rw [wrapId (x := (c.toNat : Int)) (by omega) (by omega), wrapId (by omega) (by omega)]
theorem bt3_2 (x y z : UInt8) : bt ⟨#[x, y, z]⟩ 2 = (z.toNat : Int) := (bt_at ⟨#[x, y, z]⟩ 2 (show (2 : Nat) < 3 by omega)).symm
theorem ext2 (x c : UInt8) : (⟨#[x, c]⟩ : ByteArray).extract 0 1 = ⟨#[x]⟩ := by apply ByteArray.ext; simp
theorem ext3 (x y c : UInt8) : (⟨#[x, y, c]⟩ : ByteArray).extract 0 2 = ⟨#[x, y]⟩ := by apply ByteArray.ext; simp
theorem ev_impl_DecodeStamp (l : List UInt8) (hn : l.length ≤ 2000000) : Ev (fun k => impl_DecodeStamp.f k ⟨⟨l⟩⟩) (decS l) := by
  have hsz : (⟨⟨l⟩⟩ : ByteArray).size = l.length := rfl
  have htl : (⟨⟨l⟩⟩ : ByteArray).toList = l := by rw [ByteArray.toList_eq]
  have hno : Ev (fun k => impl_DecodeStamp.j0 k ⟨⟨l⟩⟩ true) (0, 0, false) := evSucc (by simp only [impl_DecodeStamp.j0, if_true]; exact Ev.now _)
  unfold impl_DecodeStamp.f
  rw [htl, hsz]
  match l, hn with
  | [], _ => exact evElse (by simp) (evIf (by simp) hno)
  | [c], _ =>
    rw [decS_1]
    by_cases h : c = 45
    · subst h; exact evIf (by rfl) (evSome (by simp))
    · rw [if_neg h]; exact evElse (by simpa using h) (evIf (by simp) hno)
  | [x, c], _ =>
    refine evElse (by simp) (evElse (by simp) ?_)
    rw [show decide ((([x, c] : List UInt8).length : Int) > 3) = false from by simp]
    refine evSucc ?_
    simp only [impl_DecodeStamp.j0, Bool.false_eq_true, if_false]
    rw [show wrap64 (((⟨⟨[x, c]⟩⟩ : ByteArray).size : Int) - 1) = 1 from wrapId (x := (2 : Int) - 1) (by omega) (by omega), show (⟨⟨[x, c]⟩⟩ : ByteArray).extract 0 (1 : Int).toNat = ⟨#[x]⟩ from ext2 x c, show bt ⟨⟨[x, c]⟩⟩ 1 = (c.toNat : Int) from bt2_1 x c, wrapByte]
    refine evIf (by decide) (evIf (by show (1 : Int) ≤ 2; decide) (evBind (ev_impl_number1 x) (evIf (by show (1 : Int) < 2; decide) ?_)))
    rw [decS_2]
    cases num1 x with
    | none => exact evElse (by simp) (Ev.now _)
    | some n => exact evIf (by rfl) (evPut (eq_impl_ValidStamp _ _) (evIte (fun _ => Ev.now _) (fun _ => Ev.now _)))
  | [x, y, c], _ =>
    refine evElse (by simp) (evElse (by simp) ?_)
    rw [show decide ((([x, y, c] : List UInt8).length : Int) > 3) = false from by simp]
    refine evSucc ?_
    simp only [impl_DecodeStamp.j0, Bool.false_eq_true, if_false]
    rw [show wrap64 (((⟨⟨[x, y, c]⟩⟩ : ByteArray).size : Int) - 1) = 2 from wrapId (x := (3 : Int) - 1) (by omega) (by omega), show (⟨⟨[x, y, c]⟩⟩ : ByteArray).extract 0 (2 : Int).toNat = ⟨#[x, y]⟩ from ext3 x y c, show bt ⟨⟨[x, y, c]⟩⟩ 2 = (c.toNat : Int) from bt3_2 x y c, wrapByte]
    refine evIf (by decide) (evIf (by show (2 : Int) ≤ 3; decide) (evBind (ev_impl_number2 x y) (evIf (by show (2 : Int) < 3; decide) ?_)))
    rw [decS_3]
    cases num2 x y with
    | none => exact evElse (by simp) (Ev.now _)
    | some n => exact evIf (by rfl) (evPut (eq_impl_ValidStamp _ _) (evIte (fun _ => Ev.now _) (fun _ => Ev.now _)))
  | x :: y :: z :: c :: r, _ =>
    refine evElse (by simp) (evElse (by simp; omega) ?_)
    rw [show decide (((x :: y :: z :: c :: r).length : Int) > 3) = true from by simp; omega]
    exact hno
theorem ok_spec_parseStamp (l : List UInt8) (hn : l.length ≤ 2000000) : ∃ q a, Ev (fun k => spec_parseStamp.f k ⟨⟨l⟩⟩) (q, a) := by
  have hsz : (⟨⟨l⟩⟩ : ByteArray).size = l.length := rfl
  have htl : (⟨⟨l⟩⟩ : ByteArray).toList = l := by rw [ByteArray.toList_eq]
  unfold spec_parseStamp.f
  rw [htl, hsz]
  by_cases h : l = [45]
  · exact ⟨0, 0, evIf h (Ev.now _)⟩
  by_cases h' : l = []
  · exact ⟨-1, 0, evElse h (evIf h' (Ev.now _))⟩
  have hp : 0 < l.length := List.length_pos_iff.2 h'
  rw [wrapId (x := (l.length : Int) - 1) (by omega) (by omega)]
  obtain ⟨v, hv⟩ := ok_spec_parseUint ((⟨⟨l⟩⟩ : ByteArray).extract 0 ((l.length : Int) - 1).toNat) (by rw [ByteArray.size_extract]; omega)
  exact ⟨v, _, evElse h (evElse h' (evIf (by omega) (evIf (by omega) (evBind hv (evIf (by omega) (Ev.now _))))))⟩
theorem ev_spec_parseStamp2 (x c : UInt8) : Ev (fun k => spec_parseStamp.f k ⟨#[x, c]⟩) ((num1 x).getD (-1), (c.toNat : Int) - 97) := by
  have htl : (⟨#[x, c]⟩ : ByteArray).toList = [x, c] := by rw [ByteArray.toList_eq]
  unfold spec_parseStamp.f
  rw [htl, show wrap64 (((⟨#[x, c]⟩ : ByteArray).size : Int) - 1) = 1 from wrapId (x := (2 : Int) - 1) (by omega) (by omega), show (⟨#[x, c]⟩ : ByteArray).extract 0 (1 : Int).toNat = ⟨#[x]⟩ from ext2 x c, bt2_1, wrapByte]
  exact evElse (by simp) (evElse (by simp) (evIf (by decide) (evIf (by show (1 : Int) ≤ 2; decide) (evBind (ev_spec_parseUint1 x) (evIf (by show (1 : Int) < 2; decide) (Ev.now _))))))
theorem ev_spec_parseStamp3 (x y c : UInt8) : Ev (fun k => spec_parseStamp.f k ⟨#[x, y, c]⟩) ((num2 x y).getD (-1), (c.toNat : Int) - 97) := by
  have htl : (⟨#[x, y, c]⟩ : ByteArray).toList = [x, y, c] := by rw [ByteArray.toList_eq]
  unfold spec_parseStamp.f
  rw [htl, show wrap64 (((⟨#[x, y, c]⟩ : ByteArray).size : Int) - 1) = 2 from wrapId (x := (3 : Int) - 1) (by omega) (by omega), show (⟨#[x, y, c]⟩ : ByteArray).extract 0 (2 : Int).toNat = ⟨#[x, y]⟩ from ext3 x y c, bt3_2, wrapByte]
  exact evElse (by simp) (evElse (by simp) (evIf (by decide) (evIf (by show (2 : Int) ≤ 3; decide) (evBind (ev_spec_parseUint2 x y) (evIf (by show (2 : Int) < 3; decide) (Ev.now _))))))
theorem encS_none (a : Int) : encS (-1) a = ⟨#[]⟩ := by
  unfold encS; rw [if_neg (by simp [vst]), if_neg (by omega)]
theorem encS_bad {q a : Int} (h : ¬ vst q a = true) : (encS q a).size ≤ 1 := by
  unfold encS; rw [if_neg h]; split <;> decide
theorem encS_one {x c : UInt8} {n : Int} (hx : num1 x = some n) (h : vst n ((c.toNat : Int) - 97) = true) : (encS n ((c.toNat : Int) - 97)).toList = [x, c] := by
  unfold encS
  rw [if_pos h, strOfNums_list]
  unfold num1 at hx
  split at hx
  · injection hx with hx
    subst hx
    rw [encL, dec, if_pos (by omega)]
    simp only [List.cons_append, List.nil_append, List.map_cons, List.map_nil]
    rw [byteBack x _ (by omega), byteBack c _ (by omega)]
  · cases hx
theorem encS_two {x y c : UInt8} {n : Int} (hx : num2 x y = some n) (h : vst n ((c.toNat : Int) - 97) = true) : (encS n ((c.toNat : Int) - 97)).toList = [x, y, c] := by
  unfold encS
  rw [if_pos h, strOfNums_list]
  unfold num2 at hx
  split at hx
  · rename_i hd
    injection hx with hx
    subst hx
    rw [encL, dec, if_neg (by omega)]
    simp only [List.cons_append, List.nil_append, List.map_cons, List.map_nil]
    rw [byteBack x _ (by omega), byteBack y _ (by omega), byteBack c _ (by omega)]
  · cases hx
theorem list_size {s : ByteArray} {l : List UInt8} (h : s.toList = l) : s.size = l.length := by
  rw [← h, ByteArray.toList_eq]; rfl
theorem ev_spec_DecodeStamp (l : List UInt8) (hn : l.length ≤ 2000000) : Ev (fun k => spec_DecodeStamp.f k ⟨⟨l⟩⟩) (decS l) := by
  have htl : (⟨⟨l⟩⟩ : ByteArray).toList = l := by rw [ByteArray.toList_eq]
  unfold spec_DecodeStamp.f
  rw [htl]
  match l, hn with
  | [], hn =>
    obtain ⟨q, a, h⟩ := ok_spec_parseStamp [] hn
    exact evBind h (evIf (by rfl) (Ev.now _))
  | [c], hn =>
    rw [decS_1]
    by_cases h : c = 45
    · subst h
      have : Ev (fun k => spec_parseStamp.f k ⟨⟨[45]⟩⟩) (0, 0) := by
        unfold spec_parseStamp.f
        rw [show (⟨⟨[45]⟩⟩ : ByteArray).toList = [45] from by rw [ByteArray.toList_eq]]
        exact evIf (by rfl) (Ev.now _)
      exact evBind this (evElse (by simp) (evBind (ev_spec_EncodeStamp 0 0) (evIf (by rw [ByteArray.toList_eq]; decide) (evSome (by simp)))))
    · rw [if_neg h]
      have : Ev (fun k => spec_parseStamp.f k ⟨⟨[c]⟩⟩) (-1, (c.toNat : Int) - 97) := by
        have e : Ev (fun k => spec_parseUint.f k ((⟨⟨[c]⟩⟩ : ByteArray).extract 0 (0 : Int).toNat)) (-1) := by
          rw [show (⟨⟨[c]⟩⟩ : ByteArray).extract 0 (0 : Int).toNat = ⟨#[]⟩ from by apply ByteArray.ext; simp]
          unfold spec_parseUint.f
          exact Ev.step (fun _ => rfl) (evElse (by decide) (evIf (by decide) (Ev.now _)))
        unfold spec_parseStamp.f
        rw [show (⟨⟨[c]⟩⟩ : ByteArray).toList = [c] from by rw [ByteArray.toList_eq], show wrap64 (((⟨⟨[c]⟩⟩ : ByteArray).size : Int) - 1) = 0 from wrapId (x := (1 : Int) - 1) (by omega) (by omega), show bt ⟨⟨[c]⟩⟩ 0 = (c.toNat : Int) from bt1 c, wrapByte]
        exact evElse (by simpa using h) (evElse (by simp) (evIf (by decide) (evIf (by show (0 : Int) ≤ 1; decide) (evBind e (evIf (by show (0 : Int) < 1; decide) (Ev.now _))))))
      refine evBind this (evElse (by simp) (evBind (ev_spec_EncodeStamp _ _) (evElse ?_ (Ev.now _))))
      rw [encS_none, ByteArray.toList_eq]; simp
  | [x, c], hn =>
    refine evBind (ev_spec_parseStamp2 x c) (evElse (by simp) (evBind (ev_spec_EncodeStamp _ _) ?_))
    rw [decS_2]
    cases hx : num1 x with
    | none =>
      refine evElse ?_ (Ev.now _)
      rw [Option.getD_none, encS_none, ByteArray.toList_eq]; simp
    | some n =>
      by_cases hv : vst n ((c.toNat : Int) - 97) = true
      · exact evIf (encS_one hx hv) (evSome (by simp [hv]))
      · refine evElse (fun h => ?_) (evSome (by simp [hv]))
        have := list_size h
        have := encS_bad hv
        simp at *; omega
  | [x, y, c], hn =>
    refine evBind (ev_spec_parseStamp3 x y c) (evElse (by simp) (evBind (ev_spec_EncodeStamp _ _) ?_))
    rw [decS_3]
    cases hx : num2 x y with
    | none =>
      refine evElse ?_ (Ev.now _)
      rw [Option.getD_none, encS_none, ByteArray.toList_eq]; simp
    | some n =>
      by_cases hv : vst n ((c.toNat : Int) - 97) = true
      · exact evIf (encS_two hx hv) (evSome (by simp [hv]))
      · refine evElse (fun h => ?_) (evSome (by simp [hv]))
        have := list_size h
        have := encS_bad hv
        simp at *; omega
  | x :: y :: z :: c :: r, hn =>
    obtain ⟨q, a, h⟩ := ok_spec_parseStamp (x :: y :: z :: c :: r) hn
    refine evBind h (evElse (by simp) (evBind (ev_spec_EncodeStamp _ _) (evElse (fun h => ?_) (Ev.now _))))
    have := list_size h
    have := encS_size q a
    simp at *; omega
theorem FnExactDecodeStamp : laws_FnExactDecodeStamp.Pure := by
  intro s _
  apply Ev.rounds
  unfold laws_FnExactDecodeStamp.f
  by_cases hn : (s.size : Int) > 1048576
  · exact evIf hn (Ev.now _)
  obtain ⟨⟨l⟩⟩ := s
  have hl : l.length ≤ 2000000 := by have : (⟨⟨l⟩⟩ : ByteArray).size = l.length := rfl; omega
  refine evElse hn (evBind (ev_spec_DecodeStamp l hl) (evBind (ev_impl_DecodeStamp l hl) (evPut (eq_laws_eqStamp _ _ _ _) (evIf (by simp) (evElse (by simp) (Ev.now _))))))

end Go.Proofs.Ytpjbkdhehdpapaa.Pure

/- The plain side of the statement FnExactValidRows: the printed functions answer true at every input. Conditions: none beyond the given statement's own. -/
import Derived.Test.YtpjbkdhehdpapaaQVx3
import Derived.Test.YtpjbkdhehdpapaaBase
namespace Go.Proofs.Ytpjbkdhehdpapaa.Pure
open Go.RowKit Go.Proofs.Ytpjbkdhehdpapaa.QV Go.Proofs.YtpjbkdhehdpapaaW.PrintWords Go.Proofs.YtpjbkdhehdpapaaW.PrintLast Go.Proofs.Ytpjbkdhehdpapaa.Base
set_option linter.unusedVariables false
set_option linter.unusedSimpArgs false

def inV (x : Int) : Bool := decide (0 ≤ x ∧ x ≤ 99)
/-- A valid vector: three entries of 0 to 99. -/
def vv (l : List Int) : Bool := l.all inV && decide (l.length = 3)
theorem vv_length {l : List Int} (h : vv l = true) : l.length = 3 := by
  simp only [vv, Bool.and_eq_true, decide_eq_true_eq] at h
  exact h.2
theorem vv_form {l : List Int} (h : vv l = true) : ∃ a b c, l = [a, b, c] ∧ (0 ≤ a ∧ a ≤ 99) ∧ (0 ≤ b ∧ b ≤ 99) ∧ (0 ≤ c ∧ c ≤ 99) := by
  have hl := vv_length h
  match l, hl with
  | [a, b, c], _ =>
    simp [vv, inV] at h
    exact ⟨a, b, c, rfl, h⟩
def iota (a : Int) (n : Nat) : List Int := (List.range n).map fun i : Nat => a + (i : Int)
theorem iota_length (a : Int) (n : Nat) : (iota a n).length = n := by simp [iota]
theorem iota_succ (a : Int) (n : Nat) : iota a (n + 1) = a :: iota (a + 1) n := by
  simp only [iota, List.range_succ_eq_map, List.map_cons, List.map_map]
  congr 1
  · simp
  · apply List.map_congr_left; intro i _; simp only [Function.comp]; omega
/-- Every entry of a is at most that of b (of equal lengths). -/
def leL : List Int → List Int → Bool
  | a :: l, b :: m => decide (a ≤ b) && leL l m
  | _, _ => true
def vle (a b : List Int) : Bool := vv a && (vv b && leL a b)
def maxL (a b : List Int) : List Int := List.zipWith mx a b
def minL (a b : List Int) : List Int := List.zipWith mn a b
def mostL (l : List Int) (m : Int) : Int := l.foldl mx m
theorem mostL_cons (a : Int) (l : List Int) (m : Int) : mostL (a :: l) m = mostL l (mx m a) := rfl
def nextS (l : List Int) (who : Int) : Int × Int := if vv l = true ∧ 0 ≤ who ∧ who ≤ 2 then (if 99 ≤ mostL l 0 then (0, 0) else (mostL l 0 + 1, who)) else (0, 0)
theorem mx_range {a b : Int} (h : 0 ≤ a ∧ a ≤ 99) (k : 0 ≤ b ∧ b ≤ 99) : 0 ≤ mx a b ∧ mx a b ≤ 99 := by unfold mx; omega
theorem mostL_range : ∀ (l : List Int) (m : Int), l.all inV = true → 0 ≤ m ∧ m ≤ 99 → 0 ≤ mostL l m ∧ mostL l m ≤ 99
  | [], m, _, hm => hm
  | a :: l, m, h, hm => by
    simp only [List.all_cons, Bool.and_eq_true] at h
    have ha : 0 ≤ a ∧ a ≤ 99 := by simpa [inV] using h.1
    exact mostL_range l (mx m a) h.2 (mx_range hm ha)
theorem vv_all {l : List Int} (h : vv l = true) : l.all inV = true := by
  simp only [vv, Bool.and_eq_true] at h
  exact h.1
theorem inV_get {l : List Int} (h : l.all inV = true) (i : Nat) (hi : i < l.length) : 0 ≤ l[i] ∧ l[i] ≤ 99 := by
  have := (List.all_eq_true.1 h) l[i] (List.getElem_mem hi)
  simpa [inV] using this
theorem eq_laws_eqStamp (a b c d : Int) : laws_eqStamp.f a b c d = some (decide ((a, b) = (c, d))) := by
  unfold laws_eqStamp.f
  by_cases h : a = c <;> by_cases h' : b = d <;> simp [h, h']
theorem xorOk (a b : Int) (ha : 0 ≤ a ∧ a < 4611686018427387904) (hb : 0 ≤ b ∧ b < 4611686018427387904) : 0 ≤ Go.bits .xor .i64 a b := by
  obtain ⟨x, rfl⟩ := Int.eq_ofNat_of_zero_le ha.1
  obtain ⟨y, rfl⟩ := Int.eq_ofNat_of_zero_le hb.1
  have hx : x < 2 ^ 62 := by omega
  have hy : y < 2 ^ 62 := by omega
  have hz := Nat.xor_lt_two_pow hx hy
  have e : Go.bits .xor .i64 (x : Int) (y : Int) = ((x ^^^ y : Nat) : Int) := by
    simp only [Go.bits, BitVec.ofInt_natCast, BitVec.toNat_xor, BitVec.toNat_ofNat]
    rw [Nat.mod_eq_of_lt (show x < 2 ^ IntKind.i64.bits from Nat.lt_of_lt_of_le hx (by decide)), Nat.mod_eq_of_lt (show y < 2 ^ IntKind.i64.bits from Nat.lt_of_lt_of_le hy (by decide)), IntKind.wrap_i64]
    omega
  rw [e]; omega
/-- What a reader may hold: at most 2000 bytes. -/
structure BOk (b : List Int) : Prop where
  len : b.length ≤ 2000
  byte : ∀ x ∈ b, 0 ≤ x ∧ x ≤ 255
theorem BOk.rd {b : List Int} (h : BOk b) {i : Int} (h0 : 0 ≤ i) (h1 : i < b.length) : 0 ≤ Go.Proofs.YtpjbkdhehdpapaaW.PrintWords.rd b i ∧ Go.Proofs.YtpjbkdhehdpapaaW.PrintWords.rd b i ≤ 255 := by
  obtain ⟨n, rfl⟩ := Int.eq_ofNat_of_zero_le h0
  rw [rdAt _ _ (by omega)]
  exact h.byte _ (List.getElem_mem _)
theorem wf_u8 {l : List Int} (h : ∀ x ∈ l, (Lit.int .u8 x).wf = true) : ∀ x ∈ l, 0 ≤ x ∧ x ≤ 255 := fun x hx => by
  have := h x hx
  simp [Lit.wf, IntKind.min, IntKind.max, IntKind.bits, IntKind.signed] at this
  omega
/-- A call that draws: it comes to its answer v and moves the place on from p by at most m. -/
def Draws {α : Type} (g : Nat → Option (α × Int)) (p m : Int) (P : α → Prop) : Prop := ∃ v q, Ev g (v, q) ∧ p ≤ q ∧ q ≤ p + m ∧ P v
def schB (a b : Int) : Bool := decide ((a = 0 ∧ (b = 1 ∨ b = 2 ∨ b = 3)) ∨ (a = 3 ∧ b = 4) ∨ (a = 4 ∧ (b = 1 ∨ b = 3)))
theorem eq_impl_SchemaAllows (a b : Int) : impl_SchemaAllows.f a b = some (schB a b) := by
  unfold impl_SchemaAllows.f schB
  by_cases h0 : a = 0
  · subst h0
    by_cases h1 : b = 1 <;> by_cases h2 : b = 2 <;> by_cases h3 : b = 3 <;> simp [*]
  by_cases h3 : a = 3
  · subst h3
    by_cases h1 : b = 4 <;> simp [*]
  by_cases h4 : a = 4
  · subst h4
    by_cases h1 : b = 1 <;> by_cases h2 : b = 3 <;> simp [*]
  simp [*]
theorem eq_spec_schemaAllows (a b : Int) : spec_schemaAllows.f a b = some (schB a b) := by
  unfold spec_schemaAllows.f schB
  by_cases h0 : a = 0
  · subst h0
    by_cases h1 : b = 1 <;> by_cases h2 : b = 2 <;> by_cases h3 : b = 3 <;> simp [*]
  by_cases h3 : a = 3
  · subst h3
    by_cases h1 : b = 4 <;> simp [*]
  by_cases h4 : a = 4
  · subst h4
    by_cases h1 : b = 1 <;> by_cases h2 : b = 3 <;> simp [*]
  simp [*]
def vst (q a : Int) : Bool := decide ((1 ≤ q ∧ q ≤ 99) ∧ 0 ≤ a ∧ a ≤ 2)
def slt (q a q' a' : Int) : Bool := decide (q < q' ∨ (q = q' ∧ a < a'))
theorem eq_laws_toStamp (a b : Int) : laws_toStamp.f a b = some (a, b) := rfl
/-- The vector covers the stamp. -/
def vco (l : List Int) (q a : Int) : Bool := vv l && (vst q a && decide (q ≤ rd l a))
theorem mostL_self (l : List Int) : ∀ m, m ≤ mostL l m := by
  induction l with
  | nil => intro m; exact Int.le_refl _
  | cons a l ih =>
    intro m
    rw [mostL_cons]
    have := ih (mx m a)
    have : m ≤ mx m a := by unfold mx; omega
    omega
theorem mostL_mem (l : List Int) : ∀ m (i : Nat) (h : i < l.length), l[i] ≤ mostL l m := by
  induction l with
  | nil => intro m i h; simp at h
  | cons a l ih =>
    intro m i h
    rw [mostL_cons]
    cases i with
    | zero =>
      have := mostL_self l (mx m a)
      have : a ≤ mx m a := by unfold mx; omega
      simp; omega
    | succ i => simpa using ih (mx m a) i (by simpa using h)
theorem nextS_some {c : List Int} {who : Int} (h : ¬ ((nextS c who).1 = 0 ∧ (nextS c who).2 = 0)) : vv c = true ∧ 0 ≤ who ∧ who ≤ 2 ∧ nextS c who = (mostL c 0 + 1, who) ∧ 0 ≤ mostL c 0 ∧ mostL c 0 < 99 := by
  unfold nextS at h ⊢
  split at h
  · rename_i hc
    split at h
    · exact absurd ⟨rfl, rfl⟩ h
    · rename_i h9
      have := mostL_range c 0 (vv_all hc.1) (by omega)
      rw [if_pos hc, if_neg h9]
      exact ⟨hc.1, hc.2.1, hc.2.2, rfl, this.1, by omega⟩
  · exact absurd ⟨rfl, rfl⟩ h
theorem vco_le {c : List Int} {q a : Int} (h : vco c q a = true) : q ≤ mostL c 0 := by
  simp only [vco, Bool.and_eq_true, decide_eq_true_eq] at h
  obtain ⟨h1, h2, h3⟩ := h
  have hl := vv_length h1
  simp only [vst, decide_eq_true_eq] at h2
  obtain ⟨n, rfl⟩ := Int.eq_ofNat_of_zero_le h2.2.1
  rw [rdAt _ _ (by omega)] at h3
  have := mostL_mem c 0 n (by omega)
  omega
theorem rd3_0 (x y z : Int) : rd [x, y, z] 0 = x := rfl
theorem rd3_1 (x y z : Int) : rd [x, y, z] 1 = y := rfl
theorem rd3_2 (x y z : Int) : rd [x, y, z] 2 = z := rfl
theorem vv_mk {x y z : Int} (hx : 0 ≤ x ∧ x ≤ 99) (hy : 0 ≤ y ∧ y ≤ 99) (hz : 0 ≤ z ∧ z ≤ 99) : vv [x, y, z] = true := by simp [vv, inV, hx, hy, hz]
theorem mn_range {a b : Int} (h : 0 ≤ a ∧ a ≤ 99) (k : 0 ≤ b ∧ b ≤ 99) : 0 ≤ mn a b ∧ mn a b ≤ 99 := by unfold mn; omega
theorem vst_at {q a : Int} (h : vst q a = true) : a = 0 ∨ a = 1 ∨ a = 2 := by
  simp only [vst, decide_eq_true_eq] at h; omega
theorem vv_max {a b : List Int} (ha : vv a = true) (hb : vv b = true) : vv (maxL a b) = true := by
  obtain ⟨a1, a2, a3, rfl, h1, h2, h3⟩ := vv_form ha
  obtain ⟨b1, b2, b3, rfl, k1, k2, k3⟩ := vv_form hb
  exact vv_mk (mx_range h1 k1) (mx_range h2 k2) (mx_range h3 k3)
theorem vv_min {a b : List Int} (ha : vv a = true) (hb : vv b = true) : vv (minL a b) = true := by
  obtain ⟨a1, a2, a3, rfl, h1, h2, h3⟩ := vv_form ha
  obtain ⟨b1, b2, b3, rfl, k1, k2, k3⟩ := vv_form hb
  exact vv_mk (mn_range h1 k1) (mn_range h2 k2) (mn_range h3 k3)
theorem le_mx (q a b : Int) : decide (q ≤ mx a b) = (decide (q ≤ a) || decide (q ≤ b)) := by
  rw [Bool.eq_iff_iff]; simp only [Bool.or_eq_true, decide_eq_true_eq]; unfold mx; omega
theorem le_mn (q a b : Int) : decide (q ≤ mn a b) = (decide (q ≤ a) && decide (q ≤ b)) := by
  rw [Bool.eq_iff_iff]; simp only [Bool.and_eq_true, decide_eq_true_eq]; unfold mn; omega
theorem vco_max {a b : List Int} (ha : vv a = true) (hb : vv b = true) (q c : Int) : vco (maxL a b) q c = (vco a q c || vco b q c) := by
  cases hs : vst q c with
  | false => simp [vco, hs]
  | true =>
    simp only [vco, vv_max ha hb, ha, hb, hs, Bool.true_and]
    obtain ⟨a1, a2, a3, rfl, _⟩ := vv_form ha
    obtain ⟨b1, b2, b3, rfl, _⟩ := vv_form hb
    rcases vst_at hs with rfl | rfl | rfl <;> exact le_mx _ _ _
theorem vco_min {a b : List Int} (ha : vv a = true) (hb : vv b = true) (q c : Int) : vco (minL a b) q c = (vco a q c && vco b q c) := by
  cases hs : vst q c with
  | false => simp [vco, hs]
  | true =>
    simp only [vco, vv_min ha hb, ha, hb, hs, Bool.true_and]
    obtain ⟨a1, a2, a3, rfl, _⟩ := vv_form ha
    obtain ⟨b1, b2, b3, rfl, _⟩ := vv_form hb
    rcases vst_at hs with rfl | rfl | rfl <;> exact le_mn _ _ _
theorem mx_comm (a b : Int) : mx a b = mx b a := by unfold mx; omega
theorem mn_comm (a b : Int) : mn a b = mn b a := by unfold mn; omega
theorem maxL_comm (a : List Int) : ∀ b, maxL a b = maxL b a := by
  induction a with
  | nil => intro b; cases b <;> rfl
  | cons x a ih => intro b; cases b with
    | nil => rfl
    | cons y b => simp only [maxL, List.zipWith_cons_cons, mx_comm x y]; exact congrArg _ (ih b)
theorem minL_comm (a : List Int) : ∀ b, minL a b = minL b a := by
  induction a with
  | nil => intro b; cases b <;> rfl
  | cons x a ih => intro b; cases b with
    | nil => rfl
    | cons y b => simp only [minL, List.zipWith_cons_cons, mn_comm x y]; exact congrArg _ (ih b)
theorem leL_min_max (a : List Int) : ∀ b, leL (minL a b) (maxL a b) = true := by
  induction a with
  | nil => intro b; cases b <;> rfl
  | cons x a ih => intro b; cases b with
    | nil => rfl
    | cons y b =>
      simp only [minL, maxL, List.zipWith_cons_cons, leL, Bool.and_eq_true, decide_eq_true_eq]
      exact ⟨by unfold mn mx; omega, ih b⟩
theorem leL_iff (a : List Int) : ∀ b, a.length = b.length → leL a b = decide (maxL a b = b) := by
  induction a with
  | nil => intro b h; cases b with
    | nil => rfl
    | cons y b => simp at h
  | cons x a ih => intro b h; cases b with
    | nil => simp at h
    | cons y b =>
      have := ih b (by simpa using h)
      simp only [leL, maxL, List.zipWith_cons_cons, List.cons.injEq, this, Bool.decide_and]
      congr 1
      rw [Bool.eq_iff_iff]; simp only [decide_eq_true_eq]; unfold mx; omega
theorem leL_antisymm (a : List Int) : ∀ b, a.length = b.length → (leL a b && leL b a) = decide (a = b) := by
  induction a with
  | nil => intro b h; cases b with
    | nil => rfl
    | cons y b => simp at h
  | cons x a ih => intro b h; cases b with
    | nil => simp at h
    | cons y b =>
      have := ih b (by simpa using h)
      rw [Bool.eq_iff_iff] at this ⊢
      simp only [leL, List.cons.injEq, Bool.and_eq_true, decide_eq_true_eq] at this ⊢
      rw [← this]
      constructor
      · rintro ⟨⟨h1, h2⟩, h3, h4⟩; exact ⟨by omega, h2, h4⟩
      · rintro ⟨rfl, h2, h4⟩; exact ⟨⟨by omega, h2⟩, by omega, h4⟩
theorem vco_mono {a b : List Int} (ha : vv a = true) (hb : vv b = true) (h : leL a b = true) {q c : Int} (hc : vco a q c = true) : vco b q c = true := by
  rw [leL_iff a b (by rw [vv_length ha, vv_length hb]), decide_eq_true_eq] at h
  rw [← h, vco_max ha hb, hc]; rfl
theorem ok_laws_szRow (a b c d : Int) (s : ByteArray) (m : Int) (h0 : 0 ≤ m) (h1 : m ≤ 2000000) (hs : s.size ≤ maxLen) : ∃ v, laws_szRow.f a b c d s m = some v ∧ (v = -1 ∨ (v = m - s.size ∧ 0 ≤ v)) := by
  have hs' : s.size ≤ 9223372036854775807 := hs
  unfold laws_szRow.f
  rw [wrapId (x := m - (s.size : Int)) (by omega) (by omega)]
  by_cases h : m - (s.size : Int) < 0
  · exact ⟨-1, by rw [if_pos h], .inl rfl⟩
  · exact ⟨m - (s.size : Int), by rw [if_neg h], .inr ⟨rfl, by omega⟩⟩
theorem ok_laws_szRowS_l0 (x0 : List S66) (hn : x0.length ≤ 2000000) (hs : ∀ x ∈ x0, x.f3.size ≤ maxLen) : ∀ (d i : Nat) (m : Int), i + d = x0.length → 0 ≤ m → m ≤ 2000000 → ∃ v, Ev (fun k => laws_szRowS.l0 k x0 m (i : Int)) v := by
  intro d
  induction d with
  | zero =>
    intro i m hi h0 h1
    exact ⟨m, Ev.step (fun _ => rfl) (evElse (by omega) (Ev.now _))⟩
  | succ d ih =>
    intro i m hi h0 h1
    have hr : rd_T66 x0 (i : Int) = x0[i] := by simp [rd_T66, show i < x0.length by omega]
    obtain ⟨v, hv, hc⟩ := ok_laws_szRow x0[i].f0.f0 x0[i].f0.f1 x0[i].f1 x0[i].f2 x0[i].f3 m h0 h1 (hs _ (List.getElem_mem _))
    rcases hc with rfl | ⟨rfl, hp⟩
    · refine ⟨-1, Ev.step (fun _ => rfl) (evIf (by omega) (evIf (by omega) ?_))⟩
      rw [hr]
      exact evPut hv (evIf (by omega) (Ev.now _))
    · obtain ⟨u, hu⟩ := ih (i + 1) (m - (x0[i].f3.size : Int)) (by omega) hp (by omega)
      refine ⟨u, Ev.step (fun _ => rfl) (evIf (by omega) (evIf (by omega) ?_))⟩
      rw [hr, wrapSucc i (by omega)]
      exact evPut hv (evElse (by omega) hu)
theorem ok_laws_szRowS (l : List S66) (hl : l.length ≤ maxLen) (hs : ∀ x ∈ l, x.f3.size ≤ maxLen) : ∃ v, Ev (fun k => laws_szRowS.f k l 1048576) v ∧ (v < 0 ∨ l.length ≤ 1048576) := by
  have hl' : l.length ≤ 9223372036854775807 := hl
  unfold laws_szRowS.f
  rw [wrapId (x := 1048576 - (l.length : Int)) (by omega) (by omega)]
  by_cases h : 1048576 - (l.length : Int) < 0
  · exact ⟨-1, evIf h (Ev.now _), .inl (by omega)⟩
  · obtain ⟨v, hv⟩ := ok_laws_szRowS_l0 l (by omega) hs l.length 0 (1048576 - (l.length : Int)) (by omega) (by omega) (by omega)
    exact ⟨v, evElse h hv, .inr (by omega)⟩
theorem eq_laws_toRow (a b c d : Int) (s : ByteArray) : laws_toRow.f a b c d s = some (a, b, c, d, s) := rfl
def toRow (x : S66) : S68 := ⟨⟨x.f0.f0, x.f0.f1⟩, x.f1, x.f2, x.f3⟩
theorem ev_laws_toRowS_l0 (x0 : List S66) (hn : x0.length ≤ 2000000) : ∀ (d i : Nat) (x3 : List S68), i + d = x0.length → x3.length = x0.length → x3.take i = (x0.map toRow).take i → Ev (fun k => laws_toRowS.l0 k x0 x3 (i : Int)) (x0.map toRow) := by
  intro d
  induction d with
  | zero =>
    intro i x3 hi hl ht
    refine Ev.step (fun _ => rfl) (evElse (by omega) (evSome ?_))
    rwa [List.take_of_length_le (by omega), List.take_of_length_le (by simp; omega)] at ht
  | succ d ih =>
    intro i x3 hi hl ht
    have hr : rd_T66 x0 (i : Int) = x0[i] := by simp [rd_T66, show i < x0.length by omega]
    refine Ev.step (fun _ => rfl) (evIf (by omega) (evIf (by omega) (evPut (eq_laws_toRow _ _ _ _ _) (evIf (by omega) ?_))))
    rw [wrapSucc i (by omega), hr]
    refine ih (i + 1) _ (by omega) (by simp [hl]) ?_
    rw [takeSucc (x0.map toRow) i (by simp; omega), takeSucc _ i (by simp; omega)]
    simp only [Int.toNat_natCast, List.getElem_set_self, List.getElem_map]
    rw [List.take_set_of_le (Nat.le_refl i), ht]
    rfl
theorem ev_laws_toRowS (l : List S66) (hn : l.length ≤ 2000000) : Ev (fun k => laws_toRowS.f k l) (l.map toRow) := by
  unfold laws_toRowS.f
  refine evIf (by omega) (evIf (by omega) ?_)
  exact ev_laws_toRowS_l0 l hn l.length 0 _ (by omega) (by simp) (by simp)
theorem eq_laws_eqRow (a b c d : Int) (s : ByteArray) : laws_eqRow.f a b c d s a b c d s = some true := by
  unfold laws_eqRow.f; rw [eq_laws_eqStamp]; simp
theorem ev_laws_eqRowS_l0 (x0 : List S68) (hn : x0.length ≤ 2000000) : ∀ (d i : Nat), i + d = x0.length → Ev (fun k => laws_eqRowS.l0 k x0 x0 (i : Int)) true := by
  intro d
  induction d with
  | zero =>
    intro i hi
    exact Ev.step (fun _ => rfl) (evElse (by omega) (Ev.now _))
  | succ d ih =>
    intro i hi
    refine Ev.step (fun _ => rfl) (evIf (by omega) (evIf (by omega) (evIf (by omega) (evPut (eq_laws_eqRow _ _ _ _ _) (evIf (by rfl) ?_)))))
    rw [wrapSucc i (by omega)]
    exact ih (i + 1) (by omega)
theorem ev_laws_eqRowS (l : List S68) (hn : l.length ≤ 2000000) : Ev (fun k => laws_eqRowS.f k l l) true := by
  unfold laws_eqRowS.f
  exact evIf (by rfl) (ev_laws_eqRowS_l0 l hn l.length 0 (by omega))
/-- The rows from here on are valid below the chain of the kinds of the last row and its ancestors. -/
def vrow : List S68 → List Int → Bool
  | [], _ => true
  | r :: rs, ch => if r.f2 < 0 ∨ r.f2 > (ch.length : Int) then false else if schB (if r.f2 > 0 then ch.getD (r.f2.toNat - 1) 0 else 0) r.f1 = true then vrow rs (ch.take r.f2.toNat ++ [r.f1]) else false
theorem ev_spec_ValidRows_l0 (x0 : List S68) (hn : x0.length ≤ 2000000) : ∀ (d i : Nat) (ch : List Int), i + d = x0.length → ch.length ≤ i → Ev (fun k => spec_ValidRows.l0 k x0 ch (i : Int)) (vrow (x0.drop i) ch) := by
  intro d
  induction d with
  | zero =>
    intro i ch hi hc
    refine Ev.step (fun _ => rfl) (evElse (by omega) (evSome ?_))
    rw [List.drop_of_length_le (by omega)]; rfl
  | succ d ih =>
    intro i ch hi hc
    have hr : rd_T68 x0 (i : Int) = x0[i] := by simp [rd_T68, show i < x0.length by omega]
    refine Ev.step (fun _ => rfl) (evIf (by omega) (evIf (by omega) ?_))
    rw [hr, dropCons x0 i (by omega)]
    generalize hR : x0[i] = R
    unfold vrow
    by_cases c0 : R.f2 < 0
    · refine evIf c0 (evSucc ?_)
      simp only [spec_ValidRows.j1, if_true]
      exact evSome (by rw [if_pos (.inl c0)])
    refine evElse c0 ?_
    by_cases c1 : R.f2 > (ch.length : Int)
    · rw [decide_eq_true c1]
      refine evSucc ?_
      simp only [spec_ValidRows.j1, if_true]
      exact evSome (by rw [if_pos (.inr c1)])
    rw [decide_eq_false c1, if_neg (by omega)]
    refine evSucc ?_
    simp only [spec_ValidRows.j1, Bool.false_eq_true, if_false]
    have next : Ev (fun k => spec_ValidRows.l0 k x0 (([] ++ ch.take R.f2.toNat) ++ [R.f1]) (wrap64 ((i : Int) + 1))) (vrow (x0.drop (i + 1)) (ch.take R.f2.toNat ++ [R.f1])) := by
      rw [wrapSucc i (by omega), List.nil_append]
      exact ih (i + 1) _ (by omega) (by simp; omega)
    by_cases c2 : R.f2 > 0
    · have e2 : wrap64 (R.f2 - 1) = R.f2 - 1 := wrapId (by omega) (by omega)
      have e3 : rd ch (R.f2 - 1) = ch.getD (R.f2.toNat - 1) 0 := by
        rw [show R.f2 - 1 = ((R.f2.toNat - 1 : Nat) : Int) from by omega, rdNat]
      rw [e2, e3, if_pos c2]
      refine evIf c2 (evIf (by omega) (evIf (by omega) (evPut (eq_spec_schemaAllows _ _) ?_)))
      refine evIte (fun _ => ?_) (fun _ => Ev.now _)
      exact evPut rfl (evIf (by omega) (evIf (by omega) (evPut rfl (evIf (by simp; omega) (evPut rfl (evPut rfl (evIf (by simp; omega) next)))))))
    · rw [if_neg c2]
      refine evElse c2 (evPut (eq_spec_schemaAllows _ _) ?_)
      refine evIte (fun _ => ?_) (fun _ => Ev.now _)
      exact evPut rfl (evIf (by omega) (evIf (by omega) (evPut rfl (evIf (by simp; omega) (evPut rfl (evPut rfl (evIf (by simp; omega) next)))))))
theorem ev_spec_ValidRows (l : List S68) (hn : l.length ≤ 2000000) : Ev (fun k => spec_ValidRows.f k l) (vrow l []) :=
  ev_spec_ValidRows_l0 l hn l.length 0 [] (by omega) (by simp)
/-- The kind of the last row of depth dep - 1 among the first n of l, or -1. -/
def pkd (l : List S68) (dep : Int) : Nat → Int
  | 0 => -1
  | n + 1 => match l[n]? with
    | some r => if r.f2 = dep - 1 then r.f1 else pkd l dep n
    | none => -1
theorem ev_impl_parentKind_l0 (x0 : List S68) (hn : x0.length ≤ 2000000) (dep : Int) (hd : 0 < dep ∧ dep ≤ 3000000) : ∀ (n : Nat), n ≤ x0.length → Ev (fun k => impl_parentKind.l0 k x0 dep ((n : Int) - 1)) (pkd x0 dep n) := by
  intro n
  induction n with
  | zero =>
    intro h
    exact Ev.step (fun _ => rfl) (evElse (by omega) (Ev.now _))
  | succ n ih =>
    intro h
    have e : ((n + 1 : Nat) : Int) - 1 = (n : Int) := by omega
    have hr : rd_T68 x0 (n : Int) = x0[n] := by simp [rd_T68, show n < x0.length by omega]
    rw [e]
    refine Ev.step (fun _ => rfl) (evIf (by omega) (evIf (by omega) (evIf (by omega) ?_)))
    rw [hr, wrapId (x := dep - 1) (by omega) (by omega), wrapId (x := (n : Int) - 1) (by omega) (by omega)]
    simp only [pkd, List.getElem?_eq_getElem (show n < x0.length by omega)]
    exact evIte (fun _ => Ev.now _) (fun _ => ih (by omega))
theorem ev_impl_parentKind (l : List S68) (hn : l.length ≤ 2000000) (dep : Int) (hd : 0 ≤ dep ∧ dep ≤ 3000000) : Ev (fun k => impl_parentKind.f k l dep) (if dep = 0 then 0 else pkd l dep l.length) := by
  unfold impl_parentKind.f
  refine evIte (fun _ => Ev.now _) (fun h => ?_)
  rw [wrapId (by omega) (by omega)]
  exact ev_impl_parentKind_l0 l hn dep (by omega) l.length (Nat.le_refl _)
/-- What the chain holds of the rows so far: at each place of it the kind of the last row of that depth. -/
def Chain (l : List S68) (ch : List Int) (deep : Int) : Prop := deep + 1 = ch.length ∧ ∀ j, j < ch.length → pkd l ((j : Int) + 1) l.length = ch.getD j 0
theorem pkd_congr (l l' : List S68) (dep : Int) : ∀ n, (∀ i, i < n → l[i]? = l'[i]?) → pkd l dep n = pkd l' dep n
  | 0, _ => rfl
  | n + 1, h => by
    simp only [pkd, h n (by omega), pkd_congr l l' dep n (fun i hi => h i (by omega))]
theorem Chain.snoc {l : List S68} {ch : List Int} {deep : Int} (h : Chain l ch deep) (r : S68) (h0 : 0 ≤ r.f2) (h1 : r.f2 ≤ (ch.length : Int)) : Chain (l ++ [r]) (ch.take r.f2.toNat ++ [r.f1]) r.f2 := by
  have hl : (ch.take r.f2.toNat).length = r.f2.toNat := by simp; omega
  refine ⟨by simp; omega, fun j hj => ?_⟩
  have e : pkd (l ++ [r]) ((j : Int) + 1) (l ++ [r]).length = if r.f2 = (j : Int) + 1 - 1 then r.f1 else pkd l ((j : Int) + 1) l.length := by
    rw [List.length_append, List.length_singleton]
    simp only [pkd, List.getElem?_append_right (Nat.le_refl _), Nat.sub_self, List.getElem?_cons_zero]
    rw [pkd_congr (l ++ [r]) l _ l.length (fun i hi => List.getElem?_append_left hi)]
  rw [e]
  have hj' : j < r.f2.toNat + 1 := by simpa [hl] using hj
  by_cases hc : r.f2 = (j : Int) + 1 - 1
  · rw [if_pos hc]
    have : j = (ch.take r.f2.toNat).length := by omega
    subst this
    simp [List.getD_eq_getElem?_getD]
  · rw [if_neg hc, h.2 j (by omega)]
    have hlt : j < (ch.take r.f2.toNat).length := by omega
    simp only [List.getD_eq_getElem?_getD, List.getElem?_append_left hlt, List.getElem?_take]
    rw [if_pos (by omega)]
theorem ev_impl_ValidRows_l0 (x0 : List S68) (hn : x0.length ≤ 2000000) : ∀ (d i : Nat) (deep : Int) (ch : List Int), i + d = x0.length → ch.length ≤ i → Chain (x0.take i) ch deep → Ev (fun k => impl_ValidRows.l0 k x0 deep x0 (x0.length : Int) (i : Int)) (vrow (x0.drop i) ch) := by
  intro d
  induction d with
  | zero =>
    intro i deep ch hi hc hch
    refine Ev.step (fun _ => rfl) (evElse (by omega) (evSome ?_))
    rw [List.drop_of_length_le (by omega)]; rfl
  | succ d ih =>
    intro i deep ch hi hc hch
    have hr : rd_T68 x0 (i : Int) = x0[i] := by simp [rd_T68, show i < x0.length by omega]
    have hts := takeSucc x0 i (by omega)
    have hdp := hch.1
    refine Ev.step (fun _ => rfl) (evIf (by omega) (evIf (by omega) (evIf (by omega) ?_)))
    rw [hr, dropCons x0 i (by omega), wrapId (x := deep + 1) (by omega) (by omega), hdp]
    generalize hR : x0[i] = R at hts
    unfold vrow
    by_cases c0 : R.f2 < 0
    · exact evIf c0 (evSome (by rw [if_pos (.inl c0)]))
    refine evElse c0 ?_
    by_cases c1 : R.f2 > (ch.length : Int)
    · exact evIf c1 (evSome (by rw [if_pos (.inr c1)]))
    rw [if_neg (by omega)]
    refine evElse c1 (evIf (by omega) ?_)
    rw [Int.toNat_natCast]
    have hpk : (if R.f2 = 0 then 0 else pkd (x0.take i) R.f2 (x0.take i).length) = (if R.f2 > 0 then ch.getD (R.f2.toNat - 1) 0 else 0) := by
      by_cases c2 : R.f2 = 0
      · rw [if_pos c2, if_neg (by omega)]
      · rw [if_neg c2, if_pos (by omega), ← hch.2 (R.f2.toNat - 1) (by omega)]
        congr 1; omega
    refine evBind (evEq (ev_impl_parentKind (x0.take i) (by simp; omega) R.f2 (by omega)) hpk) (evPut (eq_impl_SchemaAllows _ _) ?_)
    refine evIte (fun _ => ?_) (fun _ => Ev.now _)
    rw [wrapSucc i (by omega)]
    exact ih (i + 1) _ _ (by omega) (by simp; omega) (by rw [hts]; exact hch.snoc R (by omega) (by omega))
theorem ev_impl_ValidRows (l : List S68) (hn : l.length ≤ 2000000) : Ev (fun k => impl_ValidRows.f k l) (vrow l []) :=
  ev_impl_ValidRows_l0 l hn l.length 0 (-1) [] (by omega) (by simp) ⟨rfl, fun j hj => by simp at hj⟩
theorem strOfNums_app (xs ys : List Int) : strOfNums xs ++ strOfNums ys = strOfNums (xs ++ ys) := by
  apply ByteArray.ext
  apply Array.ext'
  simp [strOfNums]
theorem strOfNums_list (xs : List Int) : (strOfNums xs).toList = xs.map fun n => UInt8.ofNat n.toNat := by
  rw [ByteArray.toList_eq]; rfl
/-- A number of 0 to 99 in decimal, as bytes. -/
def dec (q : Int) : List Int := if q < 10 then [48 + q] else [48 + q / 10, 48 + q % 10]
/-- A valid stamp's text, as bytes. -/
def encL (q a : Int) : List Int := dec q ++ [97 + a]
theorem dec_length (q : Int) : 1 ≤ (dec q).length ∧ (dec q).length ≤ 2 := by unfold dec; split <;> simp
/-- The text of a stamp, valid or zero, else the empty text. -/
def encS (q a : Int) : ByteArray := if vst q a = true then strOfNums (encL q a) else if q = 0 ∧ a = 0 then ⟨#[45]⟩ else ⟨#[]⟩
theorem encS_size (q a : Int) : (encS q a).size ≤ 3 := by
  unfold encS
  split
  · rw [strOfNums_size]; have := dec_length q; simp [encL]; omega
  · split
    · decide
    · decide
theorem byteBack (x : UInt8) (n : Int) (h : n = (x.toNat : Int)) : UInt8.ofNat n.toNat = x := by
  subst h; simp
/-- One digit; two digits without a leading zero. -/
def num1 (x : UInt8) : Option Int := if 48 ≤ (x.toNat : Int) ∧ (x.toNat : Int) ≤ 57 then some ((x.toNat : Int) - 48) else none
def num2 (x y : UInt8) : Option Int := if (49 ≤ (x.toNat : Int) ∧ (x.toNat : Int) ≤ 57) ∧ 48 ≤ (y.toNat : Int) ∧ (y.toNat : Int) ≤ 57 then some (((x.toNat : Int) - 48) * 10 + ((y.toNat : Int) - 48)) else none
theorem bt1 (x : UInt8) : bt ⟨#[x]⟩ 0 = (x.toNat : Int) := (bt_at ⟨#[x]⟩ 0 (show (0 : Nat) < 1 by omega)).symm
theorem sz1 (x : UInt8) : ((⟨#[x]⟩ : ByteArray).size : Int) = 1 := rfl
theorem sz2 (x y : UInt8) : ((⟨#[x, y]⟩ : ByteArray).size : Int) = 2 := rfl
theorem w0 : wrap64 0 = 0 := wrapId (by omega) (by omega)
theorem w01 : wrap64 (0 + 1) = 1 := wrapId (by omega) (by omega)
theorem w11 : wrap64 (1 + 1) = 2 := wrapId (by omega) (by omega)
theorem bt2_0 (x y : UInt8) : bt ⟨#[x, y]⟩ 0 = (x.toNat : Int) := (bt_at ⟨#[x, y]⟩ 0 (show (0 : Nat) < 2 by omega)).symm
theorem bt2_1 (x y : UInt8) : bt ⟨#[x, y]⟩ 1 = (y.toNat : Int) := (bt_at ⟨#[x, y]⟩ 1 (show (1 : Nat) < 2 by omega)).symm
/-- What decoding a text gives: the stamp and whether it is one. -/
def decS : List UInt8 → Int × Int × Bool
  | [c] => if c = 45 then (0, 0, true) else (0, 0, false)
  | [x, c] => match num1 x with | some n => if vst n ((c.toNat : Int) - 97) = true then (n, (c.toNat : Int) - 97, true) else (0, 0, false) | none => (0, 0, false)
  | [x, y, c] => match num2 x y with | some n => if vst n ((c.toNat : Int) - 97) = true then (n, (c.toNat : Int) - 97, true) else (0, 0, false) | none => (0, 0, false)
  | _ => (0, 0, false)
theorem decS_1 (c : UInt8) : decS [c] = if c = 45 then (0, 0, true) else (0, 0, false) := rfl
theorem decS_2 (x c : UInt8) : decS [x, c] = match num1 x with | some n => if vst n ((c.toNat : Int) - 97) = true then (n, (c.toNat : Int) - 97, true) else (0, 0, false) | none => (0, 0, false) := rfl
theorem decS_3 (x y c : UInt8) : decS [x, y, c] = match num2 x y with | some n => if vst n ((c.toNat : Int) - 97) = true then (n, (c.toNat : Int) - 97, true) else (0, 0, false) | none => (0, 0, false) := rfl
theorem wrapByte (c : UInt8) : wrap64 (wrap64 (c.toNat : Int) - 97) = (c.toNat : Int) - 97 := by
  have := c.toNat_lt
  rw [wrapId (x := (c.toNat : Int)) (by omega) (by omega), wrapId (by omega) (by omega)]
theorem bt3_2 (x y z : UInt8) : bt ⟨#[x, y, z]⟩ 2 = (z.toNat : Int) := (bt_at ⟨#[x, y, z]⟩ 2 (show (2 : Nat) < 3 by omega)).symm
theorem ext2 (x c : UInt8) : (⟨#[x, c]⟩ : ByteArray).extract 0 1 = ⟨#[x]⟩ := by apply ByteArray.ext; simp
theorem ext3 (x y c : UInt8) : (⟨#[x, y, c]⟩ : ByteArray).extract 0 2 = ⟨#[x, y]⟩ := by apply ByteArray.ext; simp
theorem encS_none (a : Int) : encS (-1) a = ⟨#[]⟩ := by
  unfold encS; rw [if_neg (by simp [vst]), if_neg (by omega)]
theorem encS_bad {q a : Int} (h : ¬ vst q a = true) : (encS q a).size ≤ 1 := by
  unfold encS; rw [if_neg h]; split <;> decide
theorem encS_one {x c : UInt8} {n : Int} (hx : num1 x = some n) (h : vst n ((c.toNat : Int) - 97) = true) : (encS n ((c.toNat : Int) - 97)).toList = [x, c] := by
  unfold encS
  rw [if_pos h, strOfNums_list]
  unfold num1 at hx
  split at hx
  · injection hx with hx
    subst hx
    rw [encL, dec, if_pos (by omega)]
    simp only [List.cons_append, List.nil_append, List.map_cons, List.map_nil]
    rw [byteBack x _ (by omega), byteBack c _ (by omega)]
  · cases hx
theorem encS_two {x y c : UInt8} {n : Int} (hx : num2 x y = some n) (h : vst n ((c.toNat : Int) - 97) = true) : (encS n ((c.toNat : Int) - 97)).toList = [x, y, c] := by
  unfold encS
  rw [if_pos h, strOfNums_list]
  unfold num2 at hx
  split at hx
  · rename_i hd
    injection hx with hx
    subst hx
    rw [encL, dec, if_neg (by omega)]
    simp only [List.cons_append, List.nil_append, List.map_cons, List.map_nil]
    rw [byteBack x _ (by omega), byteBack y _ (by omega), byteBack c _ (by omega)]
  · cases hx
theorem list_size {s : ByteArray} {l : List UInt8} (h : s.toList = l) : s.size = l.length := by
  rw [← h, ByteArray.toList_eq]; rfl
theorem FnExactValidRows : ∀ (l0 : List S66), l0.length ≤ maxLen → (∀ x ∈ l0, ((Lit.int .i64 x.f0.f0).wf = true ∧ (Lit.int .i64 x.f0.f1).wf = true) ∧ (Lit.int .i64 x.f1).wf = true ∧ (Lit.int .i64 x.f2).wf = true ∧ x.f3.size ≤ maxLen) → ∃ k, laws_FnExactValidRows.f k l0 = some true := by
  intro l hl hq
  apply Ev.rounds
  unfold laws_FnExactValidRows.f
  obtain ⟨v, hv, hc⟩ := ok_laws_szRowS l hl (fun x hx => (hq x hx).2.2.2)
  refine evBind hv ?_
  by_cases h : v < 0
  · exact evIf h (Ev.now _)
  have hn : l.length ≤ 2000000 := by have := hc.resolve_left h; omega
  have hm : (l.map toRow).length ≤ 2000000 := by simpa using hn
  refine evElse h (evBind (ev_laws_toRowS l hn) (evBind (ev_spec_ValidRows _ hm) (evBind (ev_laws_toRowS l hn) (evBind (ev_impl_ValidRows _ hm) (evElse (by simp) ?_)))))
  exact evBind (ev_laws_toRowS l hn) (evBind (ev_laws_eqRowS _ hm) (evIf (by rfl) (Ev.now _)))

end Go.Proofs.Ytpjbkdhehdpapaa.Pure

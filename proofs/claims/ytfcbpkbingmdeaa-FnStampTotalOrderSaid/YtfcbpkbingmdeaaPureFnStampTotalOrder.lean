/- The plain side of the statement FnStampTotalOrder: the printed functions answer true at every input. Conditions: none beyond the given statement's own. -/
import Derived.Test.YtfcbpkbingmdeaaQTx7
import Derived.Test.YtfcbpkbingmdeaaBase
namespace Go.Proofs.Ytfcbpkbingmdeaa.Pure
open Go.RowKit Go.Proofs.Ytfcbpkbingmdeaa.QT Go.Proofs.YtfcbpkbingmdeaaW.PrintWords Go.Proofs.YtfcbpkbingmdeaaW.PrintLast Go.Proofs.Ytfcbpkbingmdeaa.Base
set_option linter.unusedVariables false
set_option linter.unusedSimpArgs false

theorem xorOk (a b : Int) (ha : 0 ≤ a ∧ a < 4611686018427387904) (hb : 0 ≤ b ∧ b < 4611686018427387904) : 0 ≤ Go.bits .xor .i64 a b := by
  obtain ⟨x, rfl⟩ := Int.eq_ofNat_of_zero_le ha.1
  obtain ⟨y, rfl⟩ := Int.eq_ofNat_of_zero_le hb.1
  have hx : x < 2 ^ 62 := by omega
  have hy : y < 2 ^ 62 := by omega
  have hz := Nat.xor_lt_two_pow hx hy
  have e : Go.bits .xor .i64 (x : Int) (y : Int) = ((x ^^^ y : Nat) : Int) := by
    simp only [Go.bits, BitVec.ofInt_natCast, BitVec.toNat_xor, BitVec.toNat_ofNat]
    rw [Nat.mod_eq_of_lt (show x < 2 ^ IntKind.i64.bits from Nat.lt_of_lt_of_le hx (by decide)), Nat.mod_eq_of_lt (show y < 2 ^ IntKind.i64.bits from Nat.lt_of_lt_of_le hy (by decide)), IntKind.wrap_i64]
    omega
  rw [e]; omega
/-- What a reader may hold: at most 2000 bytes. -/
structure BOk (b : List Int) : Prop where
  len : b.length ≤ 2000
  byte : ∀ x ∈ b, 0 ≤ x ∧ x ≤ 255
theorem BOk.rd {b : List Int} (h : BOk b) {i : Int} (h0 : 0 ≤ i) (h1 : i < b.length) : 0 ≤ Go.Proofs.YtfcbpkbingmdeaaW.PrintWords.rd b i ∧ Go.Proofs.YtfcbpkbingmdeaaW.PrintWords.rd b i ≤ 255 := by
  obtain ⟨n, rfl⟩ := Int.eq_ofNat_of_zero_le h0
  rw [rdAt _ _ (by omega)]
  exact h.byte _ (List.getElem_mem _)
theorem wf_u8 {l : List Int} (h : ∀ x ∈ l, (Lit.int .u8 x).wf = true) : ∀ x ∈ l, 0 ≤ x ∧ x ≤ 255 := fun x hx => by
  have := h x hx
  simp [Lit.wf, IntKind.min, IntKind.max, IntKind.bits, IntKind.signed] at this
  omega
theorem ok_spec_newReader (l : List Int) (h : ∀ x ∈ l, (Lit.int .u8 x).wf = true) : ∃ b, spec_newReader.f l = some (b, 0) ∧ BOk b := by
  unfold spec_newReader.f
  by_cases hn : (l.length : Int) > 2000
  · rw [if_pos hn, if_pos (by omega)]
    exact ⟨_, rfl, ⟨by simp; omega, fun x hx => wf_u8 h x (List.mem_of_mem_take hx)⟩⟩
  · rw [if_neg hn]
    exact ⟨_, rfl, ⟨by omega, wf_u8 h⟩⟩
theorem ok_spec_reader_pick {b : List Int} (hb : BOk b) (p n : Int) (h0 : 0 ≤ p) (h1 : p ≤ 1000000000000) : ∃ v, Ev (fun k => spec_reader_pick.f k b p n) (v, p + 1) ∧ 0 ≤ v ∧ (1 ≤ n → v < n) ∧ (n < 1 → v = 0) := by
  have e1 : wrap64 (p + 1) = p + 1 := wrapId (by omega) (by omega)
  have e2 : wrap64 (p + 1 - 1) = p := by rw [wrapId (by omega) (by omega)]; omega
  unfold spec_reader_pick.f
  rw [e1]
  by_cases hn : n < 1
  · exact ⟨0, evIf hn (evSucc (by simp only [spec_reader_pick.j0, if_true]; exact Ev.now _)), by omega, fun h => by omega, fun _ => rfl⟩
  by_cases hz : b.length = 0
  · refine ⟨0, evElse hn (evSucc (by simp only [spec_reader_pick.j0, hz]; exact Ev.now _)), by omega, fun h => by omega, fun _ => rfl⟩
  have hn' : (0 : Int) < n := by omega
  by_cases hlt : p < (b.length : Int)
  · obtain ⟨r0, r1⟩ := hb.rd h0 hlt
    refine ⟨Int.tmod (Go.Proofs.YtfcbpkbingmdeaaW.PrintWords.rd b p) n, evElse hn (Ev.step (fun _ => rfl) (evElse (by simp; intro h; simp [h] at hz) ?_)), Int.tmod_nonneg _ r0, fun _ => Int.tmod_lt_of_pos _ hn', fun h => absurd h hn⟩
    rw [e2]
    refine evIf hlt (evIf h0 (evElse (by omega) (evSome ?_)))
    rw [wrapId (by omega) (by omega)]
  · have hL : (0 : Int) < b.length := by omega
    have k0 : 0 ≤ Int.tmod p b.length := Int.tmod_nonneg _ h0
    have k1 : Int.tmod p b.length < b.length := Int.tmod_lt_of_pos _ hL
    have e3 : wrap64 (p * 7) = p * 7 := wrapId (by omega) (by omega)
    have e4 : wrap64 (p * 7 + 3) = p * 7 + 3 := wrapId (by omega) (by omega)
    have j0 : 0 ≤ Int.tmod (p * 7 + 3) b.length := Int.tmod_nonneg _ (by omega)
    have j1 : Int.tmod (p * 7 + 3) b.length < b.length := Int.tmod_lt_of_pos _ hL
    obtain ⟨r0, r1⟩ := hb.rd k0 k1
    obtain ⟨s0, s1⟩ := hb.rd j0 j1
    have d0 : 0 ≤ Int.tdiv p b.length := Int.tdiv_nonneg h0 (by omega)
    have d1 : Int.tdiv p b.length ≤ p := by
      rw [Int.tdiv_eq_ediv_of_nonneg h0]; exact Int.ediv_le_self _ h0
    generalize hR : Go.Proofs.YtfcbpkbingmdeaaW.PrintWords.rd b (Int.tmod p b.length) = R at r0 r1
    generalize hS : Go.Proofs.YtfcbpkbingmdeaaW.PrintWords.rd b (Int.tmod (p * 7 + 3) b.length) = S at s0 s1
    generalize hD : Int.tdiv p b.length = D at d0 d1
    have f1 : wrap64 (wrap64 (wrap64 (wrap64 (wrap64 R * 131) + wrap64 (wrap64 S * 1117)) + wrap64 (p * 29)) + wrap64 (wrap64 D * 53)) = R * 131 + S * 1117 + p * 29 + D * 53 := by
      rw [wrapId (x := R) (by omega) (by omega), wrapId (x := S) (by omega) (by omega), wrapId (x := D) (by omega) (by omega), wrapId (x := R * 131) (by omega) (by omega), wrapId (x := S * 1117) (by omega) (by omega), wrapId (x := D * 53) (by omega) (by omega), wrapId (x := p * 29) (by omega) (by omega), wrapId (x := R * 131 + S * 1117) (by omega) (by omega), wrapId (x := R * 131 + S * 1117 + p * 29) (by omega) (by omega), wrapId (by omega) (by omega)]
    have t0 : 0 ≤ Int.tdiv (R * 131 + S * 1117 + p * 29 + D * 53) 64 := Int.tdiv_nonneg (by omega) (by omega)
    have t1 : Int.tdiv (R * 131 + S * 1117 + p * 29 + D * 53) 64 ≤ R * 131 + S * 1117 + p * 29 + D * 53 := by
      rw [Int.tdiv_eq_ediv_of_nonneg (by omega)]; exact Int.ediv_le_self _ (by omega)
    have hx := xorOk (R * 131 + S * 1117 + p * 29 + D * 53) (Int.tdiv (R * 131 + S * 1117 + p * 29 + D * 53) 64) (by omega) (by omega)
    refine ⟨Int.tmod (Go.bits .xor .i64 (R * 131 + S * 1117 + p * 29 + D * 53) (Int.tdiv (R * 131 + S * 1117 + p * 29 + D * 53) 64)) n, evElse hn (Ev.step (fun _ => rfl) (evElse (by simp; intro h; simp [h] at hz) ?_)), Int.tmod_nonneg _ hx, fun _ => Int.tmod_lt_of_pos _ hn', fun h => absurd h hn⟩
    rw [e2]
    refine evElse hlt (evElse (by omega) (evIf k0 (evIf k1 ?_)))
    rw [e3, e4]
    refine evIf j0 (evIf j1 (evElse (by omega) (evSome ?_)))
    rw [hR, hS, hD, f1, wrapId (x := Int.tdiv _ 64) (by omega) (by omega)]
theorem eq_impl_StampLess (a b c d : Int) : impl_StampLess.f a b c d = some (slt a b c d) := by
  unfold impl_StampLess.f slt
  by_cases h : a < c
  · simp [h]
  · by_cases h' : a = c <;> simp [h, h']
theorem eq_spec_stampLess (a b c d : Int) : spec_stampLess.f a b c d = some (slt a b c d) := by
  unfold spec_stampLess.f slt
  by_cases h : a < c
  · simp [h]
  · by_cases h' : a = c <;> simp [h, h']
theorem eq_spec_StampLess (a b c d : Int) : spec_StampLess.f a b c d = some (slt a b c d) := by
  unfold spec_StampLess.f; rw [eq_spec_stampLess]; rfl
theorem ok_spec_reader_one {b : List Int} (hb : BOk b) (p : Int) (h0 : 0 ≤ p) (h1 : p ≤ 1000000000000) (l : List Int) (hl : 0 < l.length) : ∃ v, v ∈ l ∧ Ev (fun k => spec_reader_one.f k b p l) (v, p + 1) := by
  obtain ⟨v, hv, v0, v1, _⟩ := ok_spec_reader_pick hb p (l.length : Int) h0 h1
  have hlt : v < (l.length : Int) := v1 (by omega)
  refine ⟨Go.Proofs.YtfcbpkbingmdeaaW.PrintWords.rd l v, ?_, ?_⟩
  · obtain ⟨n, rfl⟩ := Int.eq_ofNat_of_zero_le v0
    rw [rdAt _ _ (by omega)]
    exact List.getElem_mem _
  · unfold spec_reader_one.f
    exact evBind hv (evIf v0 (evIf hlt (Ev.now _)))
theorem ok_spec_randomStamp {b : List Int} (hb : BOk b) (p : Int) (h0 : 0 ≤ p) (h1 : p ≤ 200000000000) : ∃ x y, Ev (fun k => spec_randomStamp.f k b p) (x, y, p + 2) ∧ x ∈ ([1, 2, 3, 5, 9, 99] : List Int) ∧ 0 ≤ y ∧ y ≤ 2 := by
  obtain ⟨x, hx, ex⟩ := ok_spec_reader_one hb p h0 (by omega) [1, 2, 3, 5, 9, 99] (by decide)
  obtain ⟨y, ey, y0, y1, _⟩ := ok_spec_reader_pick hb (p + 1) 3 (by omega) (by omega)
  refine ⟨x, y, ?_, hx, y0, by have := y1 (by omega); omega⟩
  unfold spec_randomStamp.f
  exact evBind ex (evBind ey (evSome (by simp; omega)))
theorem ok_spec_anyStamp {b : List Int} (hb : BOk b) (p : Int) (h0 : 0 ≤ p) (h1 : p ≤ 100000000000) : ∃ x y q, Ev (fun k => spec_anyStamp.f k b p) (x, y, q) ∧ p ≤ q ∧ q ≤ p + 3 := by
  obtain ⟨v, ev, _⟩ := ok_spec_reader_pick hb p 8 h0 (by omega)
  unfold spec_anyStamp.f
  by_cases c0 : v = 0
  · exact ⟨0, 0, p + 1, evBind ev (evIf c0 (Ev.now _)), by omega, by omega⟩
  by_cases c1 : v = 1
  · obtain ⟨x, hx, ex⟩ := ok_spec_reader_one hb (p + 1) (by omega) (by omega) [0, 100, -1] (by decide)
    obtain ⟨y, ey, _⟩ := ok_spec_reader_pick hb (p + 1 + 1) 3 (by omega) (by omega)
    exact ⟨x, y, p + 1 + 1 + 1, evBind ev (evElse c0 (evIf c1 (evBind ex (evBind ey (Ev.now _))))), by omega, by omega⟩
  by_cases c2 : v = 2
  · obtain ⟨x, hx, ex⟩ := ok_spec_reader_one hb (p + 1) (by omega) (by omega) [3, -1] (by decide)
    exact ⟨4, x, p + 1 + 1, evBind ev (evElse c0 (evElse c1 (evIf c2 (evBind ex (Ev.now _))))), by omega, by omega⟩
  · obtain ⟨x, y, e, _⟩ := ok_spec_randomStamp hb (p + 1) (by omega) (by omega)
    exact ⟨x, y, p + 1 + 2, evBind ev (evElse c0 (evElse c1 (evElse c2 (evBind e (Ev.now _))))), by omega, by omega⟩
theorem sltIrr (a b : Int) : slt a b a b = false := by simp [slt]
theorem sltTrans {a b c d e f : Int} (h : slt a b c d = true) (k : slt c d e f = true) : slt a b e f = true := by
  simp only [slt, decide_eq_true_eq] at h k ⊢; omega
theorem ok_spec_DrawStampLess (l : List Int) (h : ∀ x ∈ l, (Lit.int .u8 x).wf = true) : ∃ a b c d, Ev (fun k => spec_DrawStampLess.f k l) (a, b, c, d) := by
  obtain ⟨m, e, hb⟩ := ok_spec_newReader l h
  obtain ⟨a, b, q, ex, q0, q1⟩ := ok_spec_anyStamp hb 0 (by omega) (by omega)
  obtain ⟨c, d, q', ey, _⟩ := ok_spec_anyStamp hb q (by omega) (by omega)
  refine ⟨a, b, c, d, ?_⟩
  unfold spec_DrawStampLess.f
  exact evPut e (evBind ex (evBind ey (Ev.now _)))
theorem sltNe {a b c d : Int} (h : slt a b c d = true) : (!(a == c) || !(b == d)) = true := by
  simp only [slt, decide_eq_true_eq] at h
  simp only [Bool.or_eq_true, Bool.not_eq_true', beq_eq_false_iff_ne]
  omega
theorem sltTot {a b c d : Int} (h : slt a b c d = false) : slt c d a b = (!(a == c) || !(b == d)) := by
  simp only [slt, decide_eq_false_iff_not] at h
  rw [Bool.eq_iff_iff]
  simp only [slt, decide_eq_true_eq, Bool.or_eq_true, Bool.not_eq_true', beq_eq_false_iff_ne]
  omega
theorem FnStampTotalOrder : ∀ (l0 : List Int) (l1 : List Int), l0.length ≤ maxLen → l0.length * 1 ≤ 140737488351232 → (∀ x ∈ l0, (Lit.int .u8 x).wf = true) → l1.length ≤ maxLen → l1.length * 1 ≤ 140737488351232 → (∀ x ∈ l1, (Lit.int .u8 x).wf = true) → ∃ k, laws_FnStampTotalOrder.f k l0 l1 = some true := by
  intro l m _ _ hl _ _ hm
  apply Ev.rounds
  unfold laws_FnStampTotalOrder.f
  by_cases h0 : (l.length : Int) > 1048576
  · exact evIf h0 (evSucc (by simp only [laws_FnStampTotalOrder.j0, if_true]; exact Ev.now _))
  refine evElse h0 ?_
  cases decide ((m.length : Int) > 1048576) with
  | true => exact evSucc (by simp only [laws_FnStampTotalOrder.j0, if_true]; exact Ev.now _)
  | false =>
    refine evSucc ?_
    simp only [laws_FnStampTotalOrder.j0, Bool.false_eq_true, if_false]
    obtain ⟨a, b, c, d, e1⟩ := ok_spec_DrawStampLess l hl
    obtain ⟨p, q, _, _, e2⟩ := ok_spec_DrawStampLess m hm
    refine evBind e1 (evBind e2 (evPut (eq_impl_StampLess a b c d) (evPut (eq_spec_StampLess a b c d) (evElse (by simp) (evPut (eq_impl_StampLess a b a b) (evElse (by rw [sltIrr]; simp) ?_))))))
    cases h : slt a b c d with
    | true =>
      have h2 : ¬ slt c d a b = true := fun k => by
        have := sltTrans h k
        rw [sltIrr] at this; cases this
      refine evIf rfl (evIf (by rw [sltNe h]; rfl) (evPut (eq_impl_StampLess c d a b) (evElse h2 (evPut (eq_impl_StampLess c d p q) ?_))))
      by_cases h3 : slt c d p q = true
      · exact evIf h3 (evPut (eq_impl_StampLess a b p q) (evSome (sltTrans h h3)))
      · exact evElse h3 (Ev.now _)
    | false => exact evElse (by simp) (evPut (eq_impl_StampLess c d a b) (evIf (by rw [sltTot h]; simp) (Ev.now _)))

end Go.Proofs.Ytfcbpkbingmdeaa.Pure

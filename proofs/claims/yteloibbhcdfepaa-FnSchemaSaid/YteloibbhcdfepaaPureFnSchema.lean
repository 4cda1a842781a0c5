/- The plain side of the statement FnSchema: the printed functions answer true at every input. Conditions: none beyond the given statement's own. -/
import Derived.Test.YteloibbhcdfepaaPFnSchemax1
import Derived.Test.YteloibbhcdfepaaBase
namespace Go.Proofs.Yteloibbhcdfepaa.Pure
open Go.RowKit Go.Proofs.Yteloibbhcdfepaa.PFnSchema Go.Proofs.YteloibbhcdfepaaW.PrintWords Go.Proofs.YteloibbhcdfepaaW.PrintLast Go.Proofs.Yteloibbhcdfepaa.Base
set_option linter.unusedVariables false
set_option linter.unusedSimpArgs false

def inV (x : Int) : Bool := decide (0 ≤ x ∧ x ≤ 99)
/-- A valid vector: three entries of 0 to 99. -/
def vv (l : List Int) : Bool := l.all inV && decide (l.length = 3)
theorem vv_length {l : List Int} (h : vv l = true) : l.length = 3 := by
  simp only [vv, Bool.and_eq_true, decide_eq_true_eq] at h
  exact h.2
theorem vv_form {l : List Int} (h : vv l = true) : ∃ a b c, l = [a, b, c] ∧ (0 ≤ a ∧ a ≤ 99) ∧ (0 ≤ b ∧ b ≤ 99) ∧ (0 ≤ c ∧ c ≤ 99) := by
  have hl := vv_length h
  match l, hl with
  | [a, b, c], _ =>
    simp [vv, inV] at h
    exact ⟨a, b, c, rfl, h⟩
def iota (a : Int) (n : Nat) : List Int := (List.range n).map fun i : Nat => a + (i : Int)
theorem iota_length (a : Int) (n : Nat) : (iota a n).length = n := by simp [iota]
theorem iota_succ (a : Int) (n : Nat) : iota a (n + 1) = a :: iota (a + 1) n := by
  simp only [iota, List.range_succ_eq_map, List.map_cons, List.map_map]
  congr 1
  · simp
  · apply List.map_congr_left; intro i _; simp only [Function.comp]; omega
/-- Every entry of a is at most that of b (of equal lengths). -/
def leL : List Int → List Int → Bool
  | a :: l, b :: m => decide (a ≤ b) && leL l m
  | _, _ => true
def vle (a b : List Int) : Bool := vv a && (vv b && leL a b)
def maxL (a b : List Int) : List Int := List.zipWith mx a b
def minL (a b : List Int) : List Int := List.zipWith mn a b
def mostL (l : List Int) (m : Int) : Int := l.foldl mx m
def nextS (l : List Int) (who : Int) : Int × Int := if vv l = true ∧ 0 ≤ who ∧ who ≤ 2 then (if 99 ≤ mostL l 0 then (0, 0) else (mostL l 0 + 1, who)) else (0, 0)
theorem mx_range {a b : Int} (h : 0 ≤ a ∧ a ≤ 99) (k : 0 ≤ b ∧ b ≤ 99) : 0 ≤ mx a b ∧ mx a b ≤ 99 := by unfold mx; omega
theorem mostL_range : ∀ (l : List Int) (m : Int), l.all inV = true → 0 ≤ m ∧ m ≤ 99 → 0 ≤ mostL l m ∧ mostL l m ≤ 99
  | [], m, _, hm => hm
  | a :: l, m, h, hm => by
    simp only [List.all_cons, Bool.and_eq_true] at h
    have ha : 0 ≤ a ∧ a ≤ 99 := by simpa [inV] using h.1
    exact mostL_range l (mx m a) h.2 (mx_range hm ha)
theorem vv_all {l : List Int} (h : vv l = true) : l.all inV = true := by
  simp only [vv, Bool.and_eq_true] at h
  exact h.1
theorem inV_get {l : List Int} (h : l.all inV = true) (i : Nat) (hi : i < l.length) : 0 ≤ l[i] ∧ l[i] ≤ 99 := by
  have := (List.all_eq_true.1 h) l[i] (List.getElem_mem hi)
  simpa [inV] using this
theorem xorOk (a b : Int) (ha : 0 ≤ a ∧ a < 4611686018427387904) (hb : 0 ≤ b ∧ b < 4611686018427387904) : 0 ≤ Go.bits .xor .i64 a b := by
  obtain ⟨x, rfl⟩ := Int.eq_ofNat_of_zero_le ha.1
  obtain ⟨y, rfl⟩ := Int.eq_ofNat_of_zero_le hb.1
  have hx : x < 2 ^ 62 := by omega
  have hy : y < 2 ^ 62 := by omega
  have hz := Nat.xor_lt_two_pow hx hy
  have e : Go.bits .xor .i64 (x : Int) (y : Int) = ((x ^^^ y : Nat) : Int) := by
    simp only [Go.bits, BitVec.ofInt_natCast, BitVec.toNat_xor, BitVec.toNat_ofNat]
    rw [Nat.mod_eq_of_lt (show x < 2 ^ IntKind.i64.bits from Nat.lt_of_lt_of_le hx (by decide)), Nat.mod_eq_of_lt (show y < 2 ^ IntKind.i64.bits from Nat.lt_of_lt_of_le hy (by decide)), IntKind.wrap_i64]
    omega
  rw [e]; omega
/-- What a reader may hold: at most 2000 bytes. -/
structure BOk (b : List Int) : Prop where
  len : b.length ≤ 2000
  byte : ∀ x ∈ b, 0 ≤ x ∧ x ≤ 255
theorem BOk.rd {b : List Int} (h : BOk b) {i : Int} (h0 : 0 ≤ i) (h1 : i < b.length) : 0 ≤ Go.Proofs.YteloibbhcdfepaaW.PrintWords.rd b i ∧ Go.Proofs.YteloibbhcdfepaaW.PrintWords.rd b i ≤ 255 := by
  obtain ⟨n, rfl⟩ := Int.eq_ofNat_of_zero_le h0
  rw [rdAt _ _ (by omega)]
  exact h.byte _ (List.getElem_mem _)
theorem wf_u8 {l : List Int} (h : ∀ x ∈ l, (Lit.int .u8 x).wf = true) : ∀ x ∈ l, 0 ≤ x ∧ x ≤ 255 := fun x hx => by
  have := h x hx
  simp [Lit.wf, IntKind.min, IntKind.max, IntKind.bits, IntKind.signed] at this
  omega
/-- A call that draws: it comes to its answer v and moves the place on from p by at most m. -/
def Draws {α : Type} (g : Nat → Option (α × Int)) (p m : Int) (P : α → Prop) : Prop := ∃ v q, Ev g (v, q) ∧ p ≤ q ∧ q ≤ p + m ∧ P v
theorem ok_spec_newReader (l : List Int) (h : ∀ x ∈ l, (Lit.int .u8 x).wf = true) : ∃ b, spec_newReader.f l = some (b, 0) ∧ BOk b := by
  unfold spec_newReader.f
  by_cases hn : (l.length : Int) > 2000
  · rw [if_pos hn, if_pos (by omega)]
    exact ⟨_, rfl, ⟨by simp; omega, fun x hx => wf_u8 h x (List.mem_of_mem_take hx)⟩⟩
  · rw [if_neg hn]
    exact ⟨_, rfl, ⟨by omega, wf_u8 h⟩⟩
theorem ok_spec_reader_pick {b : List Int} (hb : BOk b) (p n : Int) (h0 : 0 ≤ p) (h1 : p ≤ 1000000000000) : ∃ v, Ev (fun k => spec_reader_pick.f k b p n) (v, p + 1) ∧ 0 ≤ v ∧ (1 ≤ n → v < n) ∧ (n < 1 → v = 0) := by
  have e1 : wrap64 (p + 1) = p + 1 := wrapId (by omega) (by omega)
  have e2 : wrap64 (p + 1 - 1) = p := by rw [wrapId (by omega) (by omega)]; omega
  unfold spec_reader_pick.f
  rw [e1]
  by_cases hn : n < 1
  · exact ⟨0, evIf hn (evSucc (by simp only [spec_reader_pick.j0, if_true]; exact Ev.now _)), by omega, fun h => by omega, fun _ => rfl⟩
  by_cases hz : b.length = 0
  · refine ⟨0, evElse hn (evSucc (by simp only [spec_reader_pick.j0, hz]; exact Ev.now _)), by omega, fun h => by omega, fun _ => rfl⟩
  have hn' : (0 : Int) < n := by omega
  by_cases hlt : p < (b.length : Int)
  · obtain ⟨r0, r1⟩ := hb.rd h0 hlt
    refine ⟨Int.tmod (Go.Proofs.YteloibbhcdfepaaW.PrintWords.rd b p) n, evElse hn (Ev.step (fun _ => rfl) (evElse (by simp; intro h; simp [h] at hz) ?_)), Int.tmod_nonneg _ r0, fun _ => Int.tmod_lt_of_pos _ hn', fun h => absurd h hn⟩
    rw [e2]
    refine evIf hlt (evIf h0 (evElse (by omega) (evSome ?_)))
    rw [wrapId (by omega) (by omega)]
  · have hL : (0 : Int) < b.length := by omega
    have k0 : 0 ≤ Int.tmod p b.length := Int.tmod_nonneg _ h0
    have k1 : Int.tmod p b.length < b.length := Int.tmod_lt_of_pos _ hL
    have e3 : wrap64 (p * 7) = p * 7 := wrapId (by omega) (by omega)
    have e4 : wrap64 (p * 7 + 3) = p * 7 + 3 := wrapId (by omega) (by omega)
    have j0 : 0 ≤ Int.tmod (p * 7 + 3) b.length := Int.tmod_nonneg _ (by omega)
    have j1 : Int.tmod (p * 7 + 3) b.length < b.length := Int.tmod_lt_of_pos _ hL
    obtain ⟨r0, r1⟩ := hb.rd k0 k1
    obtain ⟨s0, s1⟩ := hb.rd j0 j1
    have d0 : 0 ≤ Int.tdiv p b.length := Int.tdiv_nonneg h0 (by omega)
    have d1 : Int.tdiv p b.length ≤ p := by
      rw [Int.tdiv_eq_ediv_of_nonneg h0]; exact Int.ediv_le_self _ h0
    generalize hR : Go.Proofs.YteloibbhcdfepaaW.PrintWords.rd b (Int.tmod p b.length) = R at r0 r1
    generalize hS : Go.Proofs.YteloibbhcdfepaaW.PrintWords.rd b (Int.tmod (p * 7 + 3) b.length) = S at s0 s1
    generalize hD : Int.tdiv p b.length = D at d0 d1
    have f1 : wrap64 (wrap64 (wrap64 (wrap64 (wrap64 R * 131) + wrap64 (wrap64 S * 1117)) + wrap64 (p * 29)) + wrap64 (wrap64 D * 53)) = R * 131 + S * 1117 + p * 29 + D * 53 := by
      rw [wrapId (x := R) (by omega) (by omega), wrapId (x := S) (by omega) (by omega), wrapId (x := D) (by omega) (by omega), wrapId (x := R * 131) (by omega) (by omega), wrapId (x := S * 1117) (by omega) (by omega), wrapId (x := D * 53) (by omega) (by omega), wrapId (x := p * 29) (by omega) (by omega), wrapId (x := R * 131 + S * 1117) (by omega) (by omega), wrapId (x := R * 131 + S * 1117 + p * 29) (by omega) (by omega), wrapId (by omega) (by omega)]
    have t0 : 0 ≤ Int.tdiv (R * 131 + S * 1117 + p * 29 + D * 53) 64 := Int.tdiv_nonneg (by omega) (by omega)
    have t1 : Int.tdiv (R * 131 + S * 1117 + p * 29 + D * 53) 64 ≤ R * 131 + S * 1117 + p * 29 + D * 53 := by
      rw [Int.tdiv_eq_ediv_of_nonneg (by omega)]; exact Int.ediv_le_self _ (by omega)
    have hx := xorOk (R * 131 + S * 1117 + p * 29 + D * 53) (Int.tdiv (R * 131 + S * 1117 + p * 29 + D * 53) 64) (by omega) (by omega)
    refine ⟨Int.tmod (Go.bits .xor .i64 (R * 131 + S * 1117 + p * 29 + D * 53) (Int.tdiv (R * 131 + S * 1117 + p * 29 + D * 53) 64)) n, evElse hn (Ev.step (fun _ => rfl) (evElse (by simp; intro h; simp [h] at hz) ?_)), Int.tmod_nonneg _ hx, fun _ => Int.tmod_lt_of_pos _ hn', fun h => absurd h hn⟩
    rw [e2]
    refine evElse hlt (evElse (by omega) (evIf k0 (evIf k1 ?_)))
    rw [e3, e4]
    refine evIf j0 (evIf j1 (evElse (by omega) (evSome ?_)))
    rw [hR, hS, hD, f1, wrapId (x := Int.tdiv _ 64) (by omega) (by omega)]
theorem ok_spec_DrawSchemaAllows (l : List Int) (h : ∀ x ∈ l, (Lit.int .u8 x).wf = true) : ∃ a b, Ev (fun k => spec_DrawSchemaAllows.f k l) (a, b) := by
  obtain ⟨b, e, hb⟩ := ok_spec_newReader l h
  obtain ⟨v, hv, _⟩ := ok_spec_reader_pick hb 0 7 (by omega) (by omega)
  obtain ⟨u, hu, _⟩ := ok_spec_reader_pick hb (0 + 1) 7 (by omega) (by omega)
  refine ⟨wrap64 (v - 1), wrap64 (u - 1), ?_⟩
  unfold spec_DrawSchemaAllows.f
  exact evPut e (evBind hv (evBind hu (Ev.now _)))
def schB (a b : Int) : Bool := decide ((a = 0 ∧ (b = 1 ∨ b = 2 ∨ b = 3)) ∨ (a = 3 ∧ b = 4) ∨ (a = 4 ∧ (b = 1 ∨ b = 3)))
theorem eq_impl_SchemaAllows (a b : Int) : impl_SchemaAllows.f a b = some (schB a b) := by
  unfold impl_SchemaAllows.f schB
  by_cases h0 : a = 0
  · subst h0
    by_cases h1 : b = 1 <;> by_cases h2 : b = 2 <;> by_cases h3 : b = 3 <;> simp [*]
  by_cases h3 : a = 3
  · subst h3
    by_cases h1 : b = 4 <;> simp [*]
  by_cases h4 : a = 4
  · subst h4
    by_cases h1 : b = 1 <;> by_cases h2 : b = 3 <;> simp [*]
  simp [*]
theorem eq_spec_schemaAllows (a b : Int) : spec_schemaAllows.f a b = some (schB a b) := eq_impl_SchemaAllows a b
theorem eq_spec_SchemaAllows (a b : Int) : spec_SchemaAllows.f a b = some (schB a b) := by
  unfold spec_SchemaAllows.f; rw [eq_spec_schemaAllows]; rfl
theorem FnSchema : laws_FnSchema.Pure := by
  intro l _ _ hw
  apply Ev.rounds
  unfold laws_FnSchema.f
  by_cases hn : (l.length : Int) > 1048576
  · exact evIf hn (Ev.now _)
  obtain ⟨a, b, h⟩ := ok_spec_DrawSchemaAllows l hw
  refine evElse hn (evBind h (evPut (eq_impl_SchemaAllows _ _) (evPut (eq_spec_SchemaAllows _ _) (evIf (by simp) ?_))))
  refine evSome' ?_
  unfold schB
  by_cases h0 : a = 0 <;> by_cases h1 : a = 1 <;> by_cases h2 : a = 2 <;> by_cases h3 : a = 3 <;> by_cases h4 : a = 4 <;> by_cases k1 : b = 1 <;> by_cases k2 : b = 2 <;> by_cases k3 : b = 3 <;> by_cases k4 : b = 4 <;> simp_all

end Go.Proofs.Yteloibbhcdfepaa.Pure

/- The plain side of the statement FnExactRunsText: the printed functions answer true at every input. Conditions: none beyond the given statement's own. -/
import Derived.Test.YteloibbhcdfepaaPFnExactRunsTextx2
import Derived.Test.YteloibbhcdfepaaBase
namespace Go.Proofs.Yteloibbhcdfepaa.Pure
open Go.RowKit Go.Proofs.Yteloibbhcdfepaa.PFnExactRunsText Go.Proofs.YteloibbhcdfepaaW.PrintWords Go.Proofs.YteloibbhcdfepaaW.PrintLast Go.Proofs.Yteloibbhcdfepaa.Base
set_option linter.unusedVariables false
set_option linter.unusedSimpArgs false

def inV (x : Int) : Bool := decide (0 ≤ x ∧ x ≤ 99)
/-- A valid vector: three entries of 0 to 99. -/
def vv (l : List Int) : Bool := l.all inV && decide (l.length = 3)
theorem vv_length {l : List Int} (h : vv l = true) : l.length = 3 := by
  simp only [vv, Bool.and_eq_true, decide_eq_true_eq] at h
  exact h.2
theorem vv_form {l : List Int} (h : vv l = true) : ∃ a b c, l = [a, b, c] ∧ (0 ≤ a ∧ a ≤ 99) ∧ (0 ≤ b ∧ b ≤ 99) ∧ (0 ≤ c ∧ c ≤ 99) := by
  have hl := vv_length h
  match l, hl with
  | [a, b, c], _ =>
    simp [vv, inV] at h
    exact ⟨a, b, c, rfl, h⟩
def iota (a : Int) (n : Nat) : List Int := (List.range n).map fun i : Nat => a + (i : Int)
theorem iota_length (a : Int) (n : Nat) : (iota a n).length = n := by simp [iota]
theorem iota_succ (a : Int) (n : Nat) : iota a (n + 1) = a :: iota (a + 1) n := by
  simp only [iota, List.range_succ_eq_map, List.map_cons, List.map_map]
  congr 1
  · simp
  · apply List.map_congr_left; intro i _; simp only [Function.comp]; omega
/-- Every entry of a is at most that of b (of equal lengths). -/
def leL : List Int → List Int → Bool
  | a :: l, b :: m => decide (a ≤ b) && leL l m
  | _, _ => true
def vle (a b : List Int) : Bool := vv a && (vv b && leL a b)
def maxL (a b : List Int) : List Int := List.zipWith mx a b
def minL (a b : List Int) : List Int := List.zipWith mn a b
def mostL (l : List Int) (m : Int) : Int := l.foldl mx m
theorem mostL_cons (a : Int) (l : List Int) (m : Int) : mostL (a :: l) m = mostL l (mx m a) := rfl
def nextS (l : List Int) (who : Int) : Int × Int := if vv l = true ∧ 0 ≤ who ∧ who ≤ 2 then (if 99 ≤ mostL l 0 then (0, 0) else (mostL l 0 + 1, who)) else (0, 0)
theorem mx_range {a b : Int} (h : 0 ≤ a ∧ a ≤ 99) (k : 0 ≤ b ∧ b ≤ 99) : 0 ≤ mx a b ∧ mx a b ≤ 99 := by unfold mx; omega
theorem mostL_range : ∀ (l : List Int) (m : Int), l.all inV = true → 0 ≤ m ∧ m ≤ 99 → 0 ≤ mostL l m ∧ mostL l m ≤ 99
  | [], m, _, hm => hm
  | a :: l, m, h, hm => by
    simp only [List.all_cons, Bool.and_eq_true] at h
    have ha : 0 ≤ a ∧ a ≤ 99 := by simpa [inV] using h.1
    exact mostL_range l (mx m a) h.2 (mx_range hm ha)
theorem vv_all {l : List Int} (h : vv l = true) : l.all inV = true := by
  simp only [vv, Bool.and_eq_true] at h
  exact h.1
theorem inV_get {l : List Int} (h : l.all inV = true) (i : Nat) (hi : i < l.length) : 0 ≤ l[i] ∧ l[i] ≤ 99 := by
  have := (List.all_eq_true.1 h) l[i] (List.getElem_mem hi)
  simpa [inV] using this
theorem xorOk (a b : Int) (ha : 0 ≤ a ∧ a < 4611686018427387904) (hb : 0 ≤ b ∧ b < 4611686018427387904) : 0 ≤ Go.bits .xor .i64 a b := by
  obtain ⟨x, rfl⟩ := Int.eq_ofNat_of_zero_le ha.1
  obtain ⟨y, rfl⟩ := Int.eq_ofNat_of_zero_le hb.1
  have hx : x < 2 ^ 62 := by omega
  have hy : y < 2 ^ 62 := by omega
  have hz := Nat.xor_lt_two_pow hx hy
  have e : Go.bits .xor .i64 (x : Int) (y : Int) = ((x ^^^ y : Nat) : Int) := by
    simp only [Go.bits, BitVec.ofInt_natCast, BitVec.toNat_xor, BitVec.toNat_ofNat]
    rw [Nat.mod_eq_of_lt (show x < 2 ^ IntKind.i64.bits from Nat.lt_of_lt_of_le hx (by decide)), Nat.mod_eq_of_lt (show y < 2 ^ IntKind.i64.bits from Nat.lt_of_lt_of_le hy (by decide)), IntKind.wrap_i64]
    omega
  rw [e]; omega
/-- What a reader may hold: at most 2000 bytes. -/
structure BOk (b : List Int) : Prop where
  len : b.length ≤ 2000
  byte : ∀ x ∈ b, 0 ≤ x ∧ x ≤ 255
theorem BOk.rd {b : List Int} (h : BOk b) {i : Int} (h0 : 0 ≤ i) (h1 : i < b.length) : 0 ≤ Go.Proofs.YteloibbhcdfepaaW.PrintWords.rd b i ∧ Go.Proofs.YteloibbhcdfepaaW.PrintWords.rd b i ≤ 255 := by
  obtain ⟨n, rfl⟩ := Int.eq_ofNat_of_zero_le h0
  rw [rdAt _ _ (by omega)]
  exact h.byte _ (List.getElem_mem _)
theorem wf_u8 {l : List Int} (h : ∀ x ∈ l, (Lit.int .u8 x).wf = true) : ∀ x ∈ l, 0 ≤ x ∧ x ≤ 255 := fun x hx => by
  have := h x hx
  simp [Lit.wf, IntKind.min, IntKind.max, IntKind.bits, IntKind.signed] at this
  omega
/-- A call that draws: it comes to its answer v and moves the place on from p by at most m. -/
def Draws {α : Type} (g : Nat → Option (α × Int)) (p m : Int) (P : α → Prop) : Prop := ∃ v q, Ev g (v, q) ∧ p ≤ q ∧ q ≤ p + m ∧ P v
def vst (q a : Int) : Bool := decide ((1 ≤ q ∧ q ≤ 99) ∧ 0 ≤ a ∧ a ≤ 2)
def slt (q a q' a' : Int) : Bool := decide (q < q' ∨ (q = q' ∧ a < a'))
/-- The vector covers the stamp. -/
def vco (l : List Int) (q a : Int) : Bool := vv l && (vst q a && decide (q ≤ rd l a))
theorem ok_laws_szRun (a : Int) (s : ByteArray) (m : Int) (h0 : 0 ≤ m) (h1 : m ≤ 2000000) (hs : s.size ≤ maxLen) : ∃ v, laws_szRun.f a s m = some v ∧ (v = -1 ∨ (v = m - s.size ∧ 0 ≤ v)) := by
  have hs' : s.size ≤ 9223372036854775807 := hs
  unfold laws_szRun.f
  rw [wrapId (x := m - (s.size : Int)) (by omega) (by omega)]
  by_cases h : m - (s.size : Int) < 0
  · exact ⟨-1, by rw [if_pos h], .inl rfl⟩
  · exact ⟨m - (s.size : Int), by rw [if_neg h], .inr ⟨rfl, by omega⟩⟩
def totR (l : List S63) : Nat := (l.map fun x => x.f1.size).sum
theorem ok_laws_szRunS_l0 (x0 : List S63) (hn : x0.length ≤ 2000000) (hs : ∀ x ∈ x0, x.f1.size ≤ maxLen) : ∀ (d i : Nat) (m : Int), i + d = x0.length → 0 ≤ m → m ≤ 2000000 → ∃ v, Ev (fun k => laws_szRunS.l0 k x0 m (i : Int)) v ∧ (v < 0 ∨ (totR (x0.drop i) : Int) ≤ m) := by
  intro d
  induction d with
  | zero =>
    intro i m hi h0 h1
    refine ⟨m, Ev.step (fun _ => rfl) (evElse (by omega) (Ev.now _)), .inr ?_⟩
    rw [List.drop_of_length_le (by omega)]; simpa [totR] using h0
  | succ d ih =>
    intro i m hi h0 h1
    have hr : rd_T63 x0 (i : Int) = x0[i] := by simp [rd_T63, show i < x0.length by omega]
    obtain ⟨v, hv, hc⟩ := ok_laws_szRun x0[i].f0 x0[i].f1 m h0 h1 (hs _ (List.getElem_mem _))
    have ht : totR (x0.drop i) = x0[i].f1.size + totR (x0.drop (i + 1)) := by rw [dropCons x0 i (by omega)]; rfl
    rcases hc with rfl | ⟨rfl, hp⟩
    · refine ⟨-1, Ev.step (fun _ => rfl) (evIf (by omega) (evIf (by omega) ?_)), .inl (by omega)⟩
      rw [hr]
      exact evPut hv (evIf (by omega) (Ev.now _))
    · obtain ⟨u, hu, hc⟩ := ih (i + 1) (m - (x0[i].f1.size : Int)) (by omega) hp (by omega)
      refine ⟨u, Ev.step (fun _ => rfl) (evIf (by omega) (evIf (by omega) ?_)), ?_⟩
      · rw [hr, wrapSucc i (by omega)]
        exact evPut hv (evElse (by omega) hu)
      · rcases hc with hc | hc
        · exact .inl hc
        · right; rw [ht]; omega
theorem ok_laws_szRunS (l : List S63) (hl : l.length ≤ maxLen) (hs : ∀ x ∈ l, x.f1.size ≤ maxLen) : ∃ v, Ev (fun k => laws_szRunS.f k l 1048576) v ∧ (v < 0 ∨ (l.length ≤ 1048576 ∧ totR l ≤ 1048576)) := by
  have hl' : l.length ≤ 9223372036854775807 := hl
  unfold laws_szRunS.f
  rw [wrapId (x := 1048576 - (l.length : Int)) (by omega) (by omega)]
  by_cases h : 1048576 - (l.length : Int) < 0
  · exact ⟨-1, evIf h (Ev.now _), .inl (by omega)⟩
  · obtain ⟨v, hv, hc⟩ := ok_laws_szRunS_l0 l (by omega) hs l.length 0 (1048576 - (l.length : Int)) (by omega) (by omega) (by omega)
    refine ⟨v, evElse h hv, ?_⟩
    rcases hc with hc | hc
    · exact .inl hc
    · right; rw [List.drop_zero] at hc; omega
theorem eq_laws_toRun (a : Int) (s : ByteArray) : laws_toRun.f a s = some (a, s) := rfl
def toR (x : S63) : S64 := ⟨x.f0, x.f1⟩
theorem ev_laws_toRunS_l0 (x0 : List S63) (hn : x0.length ≤ 2000000) : ∀ (d i : Nat) (x3 : List S64), i + d = x0.length → x3.length = x0.length → x3.take i = (x0.map toR).take i → Ev (fun k => laws_toRunS.l0 k x0 x3 (i : Int)) (x0.map toR) := by
  intro d
  induction d with
  | zero =>
    intro i x3 hi hl ht
    refine Ev.step (fun _ => rfl) (evElse (by omega) (evSome ?_))
    rwa [List.take_of_length_le (by omega), List.take_of_length_le (by simp; omega)] at ht
  | succ d ih =>
    intro i x3 hi hl ht
    have hr : rd_T63 x0 (i : Int) = x0[i] := by simp [rd_T63, show i < x0.length by omega]
    refine Ev.step (fun _ => rfl) (evIf (by omega) (evIf (by omega) (evPut (eq_laws_toRun _ _) (evIf (by omega) ?_))))
    rw [wrapSucc i (by omega), hr]
    refine ih (i + 1) _ (by omega) (by simp [hl]) ?_
    rw [takeSucc (x0.map toR) i (by simp; omega), takeSucc _ i (by simp; omega)]
    simp only [Int.toNat_natCast, List.getElem_set_self, List.getElem_map]
    rw [List.take_set_of_le (Nat.le_refl i), ht]
    rfl
theorem ev_laws_toRunS (l : List S63) (hn : l.length ≤ 2000000) : Ev (fun k => laws_toRunS.f k l) (l.map toR) := by
  unfold laws_toRunS.f
  refine evIf (by omega) (evIf (by omega) ?_)
  exact ev_laws_toRunS_l0 l hn l.length 0 _ (by omega) (by simp) (by simp)
theorem eq_laws_eqRun (a : Int) (s : ByteArray) : laws_eqRun.f a s a s = some true := by
  unfold laws_eqRun.f; simp
theorem ev_laws_eqRunS_l0 (x0 : List S64) (hn : x0.length ≤ 2000000) : ∀ (d i : Nat), i + d = x0.length → Ev (fun k => laws_eqRunS.l0 k x0 x0 (i : Int)) true := by
  intro d
  induction d with
  | zero =>
    intro i hi
    exact Ev.step (fun _ => rfl) (evElse (by omega) (Ev.now _))
  | succ d ih =>
    intro i hi
    refine Ev.step (fun _ => rfl) (evIf (by omega) (evIf (by omega) (evIf (by omega) (evPut (eq_laws_eqRun _ _) (evIf (by rfl) ?_)))))
    rw [wrapSucc i (by omega)]
    exact ih (i + 1) (by omega)
theorem ev_laws_eqRunS (l : List S64) (hn : l.length ≤ 2000000) : Ev (fun k => laws_eqRunS.f k l l) true := by
  unfold laws_eqRunS.f
  exact evIf (by rfl) (ev_laws_eqRunS_l0 l hn l.length 0 (by omega))
def totI (l : List S64) : Nat := (l.map fun x => x.f1.size).sum
def catR (l : List S64) (s : ByteArray) : ByteArray := l.foldl (fun s r => s ++ r.f1) s
theorem ev_spec_RunsText_l0 (x0 : List S64) (hn : x0.length ≤ 2000000) : ∀ (d i : Nat) (s : ByteArray), i + d = x0.length → s.size + totI (x0.drop i) ≤ 2000000 → Ev (fun k => spec_RunsText.l0 k x0 s (i : Int)) (catR (x0.drop i) s) := by
  intro d
  induction d with
  | zero =>
    intro i s hi ht
    refine Ev.step (fun _ => rfl) (evElse (by omega) (evSome ?_))
    rw [List.drop_of_length_le (by omega)]; rfl
  | succ d ih =>
    intro i s hi ht
    have hr : rd_T64 x0 (i : Int) = x0[i] := by simp [rd_T64, show i < x0.length by omega]
    have e : totI (x0.drop i) = x0[i].f1.size + totI (x0.drop (i + 1)) := by rw [dropCons x0 i (by omega)]; rfl
    refine Ev.step (fun _ => rfl) (evIf (by omega) (evIf (by omega) ?_))
    rw [hr, wrapSucc i (by omega)]
    refine evIf (by omega) (evEq (ih (i + 1) _ (by omega) (by rw [ByteArray.size_append]; omega)) ?_)
    rw [dropCons x0 i (by omega)]; rfl
theorem ev_spec_RunsText (l : List S64) (hn : l.length ≤ 2000000) (ht : totI l ≤ 2000000) : Ev (fun k => spec_RunsText.f k l) (catR l ⟨#[]⟩) :=
  ev_spec_RunsText_l0 l hn l.length 0 _ (by omega) (by simpa [ByteArray.size] using ht)
theorem ev_impl_RunsText_l0 (x0 : List S64) (hn : x0.length ≤ 2000000) : ∀ (d i : Nat) (s : ByteArray), i + d = x0.length → s.size + totI (x0.drop i) ≤ 2000000 → Ev (fun k => impl_RunsText.l0 k s x0 (x0.length : Int) (i : Int)) (catR (x0.drop i) s) := by
  intro d
  induction d with
  | zero =>
    intro i s hi ht
    refine Ev.step (fun _ => rfl) (evElse (by omega) (evSome ?_))
    rw [List.drop_of_length_le (by omega)]; rfl
  | succ d ih =>
    intro i s hi ht
    have hr : rd_T64 x0 (i : Int) = x0[i] := by simp [rd_T64, show i < x0.length by omega]
    have e : totI (x0.drop i) = x0[i].f1.size + totI (x0.drop (i + 1)) := by rw [dropCons x0 i (by omega)]; rfl
    refine Ev.step (fun _ => rfl) (evIf (by omega) (evIf (by omega) (evIf (by omega) ?_)))
    rw [hr, wrapSucc i (by omega)]
    refine evIf (by omega) (evEq (ih (i + 1) _ (by omega) (by rw [ByteArray.size_append]; omega)) ?_)
    rw [dropCons x0 i (by omega)]; rfl
theorem ev_impl_RunsText (l : List S64) (hn : l.length ≤ 2000000) (ht : totI l ≤ 2000000) : Ev (fun k => impl_RunsText.f k l) (catR l ⟨#[]⟩) :=
  ev_impl_RunsText_l0 l hn l.length 0 _ (by omega) (by simpa [ByteArray.size] using ht)
theorem FnExactRunsText : ∀ (l0 : List S63), l0.length ≤ maxLen → (∀ x ∈ l0, (Lit.int .i64 x.f0).wf = true ∧ x.f1.size ≤ maxLen) → ∃ k, laws_FnExactRunsText.f k l0 = some true := by
  intro l hl hq
  apply Ev.rounds
  unfold laws_FnExactRunsText.f
  obtain ⟨v, hv, hc⟩ := ok_laws_szRunS l hl (fun x hx => (hq x hx).2)
  refine evBind hv ?_
  by_cases h : v < 0
  · exact evIf h (Ev.now _)
  obtain ⟨h1, h2⟩ : l.length ≤ 1048576 ∧ totR l ≤ 1048576 := hc.resolve_left h
  have hn : l.length ≤ 2000000 := by omega
  have hm : (l.map toR).length ≤ 2000000 := by simpa using hn
  have ht : totI (l.map toR) ≤ 2000000 := by
    have : totI (l.map toR) = totR l := by simp [totI, totR, toR, Function.comp_def]
    omega
  refine evElse h (evBind (ev_laws_toRunS l hn) (evBind (ev_spec_RunsText _ hm ht) (evBind (ev_laws_toRunS l hn) (evBind (ev_impl_RunsText _ hm ht) (evIf (by rfl) ?_)))))
  exact evBind (ev_laws_toRunS l hn) (evBind (ev_laws_eqRunS _ hm) (evIf (by rfl) (Ev.now _)))

end Go.Proofs.Yteloibbhcdfepaa.Pure

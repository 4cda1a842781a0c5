/- The plain side of the statement FnExactLogPrefix: the printed functions answer true at every input. Conditions: none beyond the given statement's own. -/
import Derived.Test.YtomigiindmojkaaQKx24
import Derived.Test.YtomigiindmojkaaBase
namespace Go.Proofs.Ytomigiindmojkaa.Pure
open Go.RowKit Go.Proofs.Ytomigiindmojkaa.QK Go.Proofs.YtomigiindmojkaaW.PrintWords Go.Proofs.YtomigiindmojkaaW.PrintLast Go.Proofs.Ytomigiindmojkaa.Base
set_option linter.unusedVariables false
set_option linter.unusedSimpArgs false

def inV (x : Int) : Bool := decide (0 ≤ x ∧ x ≤ 99)
/-- A valid vector: three entries of 0 to 99. -/
def vv (l : List Int) : Bool := l.all inV && decide (l.length = 3)
theorem vv_length {l : List Int} (h : vv l = true) : l.length = 3 := by
  simp only [vv, Bool.and_eq_true, decide_eq_true_eq] at h
  exact h.2
def iota (a : Int) (n : Nat) : List Int := (List.range n).map fun i : Nat => a + (i : Int)
theorem iota_succ (a : Int) (n : Nat) : iota a (n + 1) = a :: iota (a + 1) n := by
  simp only [iota, List.range_succ_eq_map, List.map_cons, List.map_map]
  congr 1
  · simp
  · apply List.map_congr_left; intro i _; simp only [Function.comp]; omega
theorem ev_laws_toIntS_l0 (x0 : List Int) (hn : x0.length ≤ 2000000) : ∀ (d i : Nat) (x3 : List Int), i + d = x0.length → x3.length = x0.length → x3.take i = x0.take i → Ev (fun k => laws_toIntS.l0 k x0 x3 (i : Int)) x0 := by
  intro d
  induction d with
  | zero =>
    intro i x3 hi hl ht
    refine Ev.step (fun _ => rfl) (evElse (by omega) (evSome ?_))
    rwa [List.take_of_length_le (by omega), List.take_of_length_le (by omega)] at ht
  | succ d ih =>
    intro i x3 hi hl ht
    refine Ev.step (fun _ => rfl) (evIf (by omega) (evIf (by omega) (evIf (by omega) ?_)))
    rw [wrapSucc i (by omega), rdAt _ _ (by omega)]
    refine ih (i + 1) _ (by omega) (by simp [hl]) ?_
    rw [takeSucc x0 i (by omega), takeSucc _ i (by simp; omega)]
    simp only [Int.toNat_natCast, List.getElem_set_self]
    rw [List.take_set_of_le (Nat.le_refl i), ht]
theorem ev_laws_toIntS (l : List Int) (hn : l.length ≤ 2000000) : Ev (fun k => laws_toIntS.f k l) l := by
  unfold laws_toIntS.f
  refine evIf (by omega) (evIf (by omega) ?_)
  exact ev_laws_toIntS_l0 l hn l.length 0 _ (by omega) (by simp) (by simp)
theorem ev_laws_eqIntS_l0 (x0 x1 : List Int) (hn : x0.length ≤ 2000000) (hl : x0.length = x1.length) : ∀ (d i : Nat), i + d = x0.length → Ev (fun k => laws_eqIntS.l0 k x0 x1 (i : Int)) (decide (x0.drop i = x1.drop i)) := by
  intro d
  induction d with
  | zero =>
    intro i hi
    refine Ev.step (fun _ => rfl) (evElse (by omega) (evSome ?_))
    rw [List.drop_of_length_le (by omega), List.drop_of_length_le (by omega)]; simp
  | succ d ih =>
    intro i hi
    refine Ev.step (fun _ => rfl) (evIf (by omega) (evIf (by omega) (evIf (by omega) ?_)))
    rw [wrapSucc i (by omega), rdAt _ _ (by omega), rdAt _ _ (by omega), dropCons x0 i (by omega), dropCons x1 i (by omega)]
    by_cases h : x0[i] = x1[i]
    · refine evIf h (evEq (ih (i + 1) (by omega)) ?_)
      simp only [h, List.cons.injEq, true_and]
    · refine evElse h (evSome ?_)
      simp only [h, List.cons.injEq, false_and, decide_false]
theorem ev_laws_eqIntS (a b : List Int) (hn : a.length ≤ 2000000) : Ev (fun k => laws_eqIntS.f k a b) (decide (a = b)) := by
  unfold laws_eqIntS.f
  by_cases h : a.length = b.length
  · exact evIf (by omega) (evEq (ev_laws_eqIntS_l0 a b hn h a.length 0 (by omega)) (by simp))
  · refine evElse (by omega) (evSome ?_)
    rw [eq_comm, decide_eq_false_iff_not]
    intro e; exact h (by rw [e])
theorem eq_spec_inRange (a lo hi : Int) : spec_inRange.f a lo hi = some (decide (lo ≤ a ∧ a ≤ hi)) := by
  unfold spec_inRange.f
  by_cases h : lo ≤ a <;> simp [h]
theorem ev_spec_validVector_l0 (x0 : List Int) (hn : x0.length ≤ 2000000) : ∀ (d i : Nat), i + d = x0.length → Ev (fun k => spec_validVector.l0 k x0 (i : Int)) ((x0.drop i).all inV && decide (x0.length = 3)) := by
  intro d
  induction d with
  | zero =>
    intro i hi
    refine Ev.step (fun _ => rfl) (evElse (by omega) (evSome ?_))
    rw [List.drop_of_length_le (by omega)]
    rw [List.all_nil, Bool.true_and, Bool.eq_iff_iff, beq_iff_eq, decide_eq_true_iff]; omega
  | succ d ih =>
    intro i hi
    refine Ev.step (fun _ => rfl) (evIf (by omega) (evIf (by omega) (evPut (eq_spec_inRange _ _ _) ?_)))
    rw [wrapSucc i (by omega), rdAt _ _ (by omega), dropCons x0 i (by omega)]
    by_cases h : 0 ≤ x0[i] ∧ x0[i] ≤ 99
    · refine evIf (by simpa using h) (evEq (ih (i + 1) (by omega)) ?_)
      simp only [List.all_cons, inV, h, and_self, decide_true, Bool.true_and]
    · refine evElse (by simpa using h) (evSome ?_)
      simp only [List.all_cons, inV, h, decide_false, Bool.false_and]
theorem ev_spec_validVector (l : List Int) (hn : l.length ≤ 2000000) : Ev (fun k => spec_validVector.f k l) (vv l) :=
  ev_spec_validVector_l0 l hn l.length 0 (by omega)
theorem ev_impl_ValidVector_l0 (x0 : List Int) (hn : x0.length ≤ 2000000) : ∀ (d i : Nat), i + d = x0.length → Ev (fun k => impl_ValidVector.l0 k x0 x0 (x0.length : Int) (i : Int)) ((x0.drop i).all inV && decide (x0.length = 3)) := by
  intro d
  induction d with
  | zero =>
    intro i hi
    refine Ev.step (fun _ => rfl) (evElse (by omega) (evSome ?_))
    rw [List.drop_of_length_le (by omega)]
    rw [List.all_nil, Bool.true_and, Bool.eq_iff_iff, beq_iff_eq, decide_eq_true_iff]; omega
  | succ d ih =>
    intro i hi
    refine Ev.step (fun _ => rfl) (evIf (by omega) (evIf (by omega) (evIf (by omega) ?_)))
    rw [wrapSucc i (by omega), rdAt _ _ (by omega), dropCons x0 i (by omega)]
    by_cases h : x0[i] < 0
    · refine evIf h (evSome ?_)
      have : inV x0[i] = false := by unfold inV; rw [decide_eq_false_iff_not]; omega
      simp only [List.all_cons, this, Bool.false_and, Bool.true_and]
    · refine evElse h ?_
      by_cases h' : x0[i] > 99
      · refine evIf h' (evSome ?_)
        have : inV x0[i] = false := by unfold inV; rw [decide_eq_false_iff_not]; omega
        simp only [List.all_cons, this, Bool.false_and, Bool.true_and]
      · refine evElse h' (evEq (ih (i + 1) (by omega)) ?_)
        have : inV x0[i] = true := by unfold inV; rw [decide_eq_true_iff]; omega
        simp only [List.all_cons, this, Bool.false_and, Bool.true_and]
theorem ev_impl_ValidVector (l : List Int) (hn : l.length ≤ 2000000) : Ev (fun k => impl_ValidVector.f k l) (vv l) :=
  ev_impl_ValidVector_l0 l hn l.length 0 (by omega)
theorem eq_impl_isAuthor (a : Int) : impl_isAuthor.f a = some (decide (0 ≤ a ∧ a ≤ 2)) := by
  unfold impl_isAuthor.f
  by_cases h : 0 ≤ a
  · rw [if_pos h]
    by_cases h' : a ≤ 2
    · rw [decide_eq_true (show a < 3 by omega), decide_eq_true (⟨h, h'⟩ : 0 ≤ a ∧ a ≤ 2)]
    · rw [decide_eq_false (show ¬ a < 3 by omega), decide_eq_false (fun hh => h' hh.2)]
  · rw [if_neg h, decide_eq_false (fun hh => h hh.1)]
theorem ev_laws_markIntS_l0 : ∀ (d i : Nat) (x0 : List Int) (a : Int), x0.length ≤ 2000000 → i + d = x0.length → 0 ≤ a → a + d ≤ 100000000000 → Ev (fun k => laws_markIntS.l0 k x0 a (i : Int)) (a + d, x0.take i ++ iota a d) := by
  intro d
  induction d with
  | zero =>
    intro i x0 a hn hi _ _
    refine Ev.step (fun _ => rfl) (evElse (by omega) (evSome ?_))
    rw [List.take_of_length_le (by omega)]; simp [iota]
  | succ d ih =>
    intro i x0 a hn hi h0 h1
    refine Ev.step (fun _ => rfl) (evIf (by omega) (evIf (by omega) ?_))
    rw [wrapSucc i (by omega), wrapId (x := a + 1) (by omega) (by omega)]
    refine evEq (ih (i + 1) _ (a + 1) (by simpa using hn) (by simp; omega) (by omega) (by omega)) ?_
    rw [takeSucc _ i (by simp; omega), iota_succ]
    simp only [Int.toNat_natCast, List.getElem_set_self, List.take_set_of_le (Nat.le_refl i), List.append_assoc, List.singleton_append]
    congr 1; omega
theorem ev_laws_markIntS (l : List Int) (a : Int) (hn : l.length ≤ 2000000) (h0 : 0 ≤ a) (h1 : a + l.length ≤ 100000000000) : Ev (fun k => laws_markIntS.f k l a) (a + l.length, iota a l.length) :=
  evEq (ev_laws_markIntS_l0 l.length 0 l a hn (by omega) h0 h1) (by simp)
/-- What a reader may hold: at most 2000 bytes. -/
structure BOk (b : List Int) : Prop where
  len : b.length ≤ 2000
  byte : ∀ x ∈ b, 0 ≤ x ∧ x ≤ 255
theorem BOk.rd {b : List Int} (h : BOk b) {i : Int} (h0 : 0 ≤ i) (h1 : i < b.length) : 0 ≤ Go.Proofs.YtomigiindmojkaaW.PrintWords.rd b i ∧ Go.Proofs.YtomigiindmojkaaW.PrintWords.rd b i ≤ 255 := by
  obtain ⟨n, rfl⟩ := Int.eq_ofNat_of_zero_le h0
  rw [rdAt _ _ (by omega)]
  exact h.byte _ (List.getElem_mem _)
theorem eq_impl_ValidStamp (a b : Int) : impl_ValidStamp.f a b = some (vst a b) := by
  unfold impl_ValidStamp.f vst
  simp only [eq_impl_isAuthor, Option.bind_some]
  by_cases h : 1 ≤ a
  · by_cases h' : a ≤ 99
    · simp only [ge_iff_le, h, h', if_true, and_self, true_and]
    · simp only [ge_iff_le, h, h', if_true, if_false, and_false, false_and, decide_false]
  · simp only [ge_iff_le, h, if_false, false_and, decide_false]
theorem eq_spec_vectorContains (l : List Int) (q a : Int) (hl : l.length = 3) (ha : 0 ≤ a ∧ a ≤ 2) : spec_vectorContains.f l q a = some (decide (q ≤ rd l a)) := by
  unfold spec_vectorContains.f
  rw [if_pos ha.1, if_pos (by omega)]
/-- The vector covers the stamp. -/
def vco (l : List Int) (q a : Int) : Bool := vv l && (vst q a && decide (q ≤ rd l a))
theorem ev_impl_VectorContains (l : List Int) (q a : Int) (hn : l.length ≤ 2000000) : Ev (fun k => impl_VectorContains.f k l q a) (vco l q a) := by
  unfold impl_VectorContains.f vco
  refine evBind (ev_impl_ValidVector l hn) ?_
  cases hv : vv l with
  | false => exact evElse (by simp) (Ev.now _)
  | true =>
    refine evIf (by rfl) (evPut (eq_impl_ValidStamp _ _) ?_)
    cases hs : vst q a with
    | false => exact evElse (by simp) (evSome (by simp))
    | true =>
      have h3 := vv_length hv
      simp only [vst, decide_eq_true_eq] at hs
      exact evIf (by rfl) (evIf hs.2.1 (evIf (by omega) (evSome (by simp))))
theorem eq_spec_validOp (i0 i1 kd t0 t1 a0 a1 n0 n1 v : Int) (en : Bool) (tx : ByteArray) (hn : tx.size ≤ 9223372036854775807) : spec_validOp.f i0 i1 kd t0 t1 a0 a1 n0 n1 v en tx = some (vopB i0 i1 kd t0 t1 a0 a1 n0 n1 v en tx) := if_pos hn
theorem eq_impl_ValidOp (i0 i1 kd t0 t1 a0 a1 n0 n1 v : Int) (en : Bool) (tx : ByteArray) (hn : tx.size ≤ 9223372036854775807) : impl_ValidOp.f i0 i1 kd t0 t1 a0 a1 n0 n1 v en tx = some (vopB i0 i1 kd t0 t1 a0 a1 n0 n1 v en tx) := if_pos hn
theorem eq_laws_toOp (i0 i1 kd t0 t1 a0 a1 n0 n1 v : Int) (en : Bool) (tx : ByteArray) : laws_toOp.f i0 i1 kd t0 t1 a0 a1 n0 n1 v en tx = some (i0, i1, kd, t0, t1, a0, a1, n0, n1, v, en, tx) := rfl
theorem eq_laws_szOp (i0 i1 kd t0 t1 a0 a1 n0 n1 v : Int) (en : Bool) (tx : ByteArray) (b : Int) : laws_szOp.f i0 i1 kd t0 t1 a0 a1 n0 n1 v en tx b = some (if wrap64 (b - (tx.size : Int)) < 0 then -1 else wrap64 (b - (tx.size : Int))) := by
  unfold laws_szOp.f
  split <;> rfl
theorem subW {b n : Int} (h0 : 0 ≤ b) (h1 : b ≤ 4611686018427387904) (h2 : 0 ≤ n) (h3 : n ≤ 9223372036854775807) : wrap64 (b - n) = b - n := wrapId (by omega) (by omega)
theorem nat1 (i : Nat) (h : i < 4611686018427387904) : wrap64 ((i : Int) + 1) = ((i + 1 : Nat) : Int) := wrapSucc i h
theorem rd_lop (l : List S25) (i : Nat) (h : i < l.length) : rd_T25 l (i : Int) = l[i] := by simp [rd_T25, h]
theorem ev_laws_szOpS_l (l : List S25) (hn : l.length ≤ 4611686018427387900) (ht : ∀ x ∈ l, x.f7.size ≤ 9223372036854775807) : ∀ (d i : Nat) (b : Int), i + d = l.length → 0 ≤ b → b ≤ 1048576 → ∃ r, Ev (fun k => laws_szOpS.l0 k l b (i : Int)) r ∧ (0 ≤ r → r ≤ b ∧ ∀ x ∈ l.drop i, (x.f7.size : Int) ≤ b) := by
  intro d
  induction d with
  | zero =>
    intro i b hi h0 h1
    refine ⟨b, Ev.step (fun _ => rfl) (evElse (by omega) (Ev.now _)), fun _ => ⟨Int.le_refl _, ?_⟩⟩
    rw [List.drop_of_length_le (by omega)]
    exact fun x hx => absurd hx (by simp)
  | succ d ih =>
    intro i b hi h0 h1
    have hl : i < l.length := by omega
    have hs := ht (l[i]) (List.getElem_mem hl)
    by_cases hb : b - ((l[i]).f7.size : Int) < 0
    · refine ⟨-1, Ev.step (fun _ => rfl) (evIf (by omega) (evIf (by omega) (evPut (a := -1) ?_ (evIf (by omega) (Ev.now _))))), fun h => absurd h (by omega)⟩
      rw [rd_lop l i hl, eq_laws_szOp, subW h0 (by omega) (by omega) (by omega), if_pos hb]
    · obtain ⟨r, e, k⟩ := ih (i + 1) (b - ((l[i]).f7.size : Int)) (by omega) (by omega) (by omega)
      refine ⟨r, Ev.step (fun _ => rfl) (evIf (by omega) (evIf (by omega) (evPut (a := b - ((l[i]).f7.size : Int)) ?_ (evElse hb ?_)))), fun h => ?_⟩
      · rw [rd_lop l i hl, eq_laws_szOp, subW h0 (by omega) (by omega) (by omega), if_neg hb]
      · rw [nat1 i (by omega)]; exact e
      · obtain ⟨k1, k2⟩ := k h
        refine ⟨by omega, fun x hx => ?_⟩
        rw [dropCons l i hl] at hx
        rcases List.mem_cons.mp hx with rfl | hx
        · omega
        · have := k2 x hx; omega
theorem ev_laws_szOpS (l : List S25) (hn : l.length ≤ 9223372036854775807) (ht : ∀ x ∈ l, x.f7.size ≤ 9223372036854775807) (b : Int) (h0 : 0 ≤ b) (h1 : b ≤ 1048576) : ∃ r, Ev (fun k => laws_szOpS.f k l b) r ∧ (0 ≤ r → r ≤ b ∧ (l.length : Int) ≤ b ∧ ∀ x ∈ l, (x.f7.size : Int) ≤ b) := by
  unfold laws_szOpS.f
  rw [subW h0 (by omega) (by omega) (by omega)]
  by_cases h : b - (l.length : Int) < 0
  · exact ⟨-1, evIf h (Ev.now _), fun h => absurd h (by omega)⟩
  · obtain ⟨r, e, k⟩ := ev_laws_szOpS_l l (by omega) ht l.length 0 (b - (l.length : Int)) (by omega) (by omega) (by omega)
    refine ⟨r, evElse h e, fun h => ?_⟩
    obtain ⟨k1, k2⟩ := k h
    exact ⟨by omega, by omega, fun x hx => by have := k2 x hx; omega⟩
/-- The conversion of an operation. -/
def cvOp (x : S25) : S30 := ⟨⟨x.f0.f0, x.f0.f1⟩, x.f1, ⟨x.f2.f0, x.f2.f1⟩, ⟨x.f3.f0, x.f3.f1⟩, ⟨x.f4.f0, x.f4.f1⟩, x.f5, x.f6, x.f7⟩
theorem ev_laws_toOpS_l (l : List S25) (hn : l.length ≤ 2706490160679) : ∀ (d i : Nat) (m : List S30), i + d = l.length → m.length = l.length → m.take i = (l.take i).map cvOp → Ev (fun k => laws_toOpS.l0 k l m (i : Int)) (l.map cvOp) := by
  intro d
  induction d with
  | zero =>
    intro i m hi hm ht
    refine Ev.step (fun _ => rfl) (evElse (by omega) (evSome ?_))
    rw [List.take_of_length_le (by omega), List.take_of_length_le (by omega)] at ht
    exact ht
  | succ d ih =>
    intro i m hi hm ht
    have hl : i < l.length := by omega
    refine Ev.step (fun _ => rfl) (evIf (by omega) (evIf (by omega) (evPut (eq_laws_toOp _ _ _ _ _ _ _ _ _ _ _ _) (evIf (by omega) ?_))))
    rw [nat1 i (by omega), rd_lop l i hl]
    refine ih (i + 1) _ (by omega) (by rw [List.length_set]; exact hm) ?_
    rw [takeSucc _ i (by rw [List.length_set]; omega), takeSucc l i hl, List.map_append, List.map_singleton, ← ht]
    congr 1
    · rw [Int.toNat_natCast, List.take_set_of_le (Nat.le_refl i)]
    · simp [cvOp]
theorem ev_laws_toOpS (l : List S25) (hn : l.length ≤ 2706490160679) : Ev (fun k => laws_toOpS.f k l) (l.map cvOp) := by
  unfold laws_toOpS.f
  refine evIf (by omega) (evIf (by omega) ?_)
  exact ev_laws_toOpS_l l hn l.length 0 _ (by omega) (by simp) (by simp)
theorem eq_laws_eqOp (a0 a1 a2 a3 a4 a5 a6 a7 a8 a9 : Int) (a10 : Bool) (a11 : ByteArray) : laws_eqOp.f a0 a1 a2 a3 a4 a5 a6 a7 a8 a9 a10 a11 a0 a1 a2 a3 a4 a5 a6 a7 a8 a9 a10 a11 = some true := by
  unfold laws_eqOp.f
  simp [opB, stB]
theorem ev_laws_eqOpS_l (l : List S30) (hn : l.length ≤ 4611686018427387900) : ∀ (d i : Nat), i + d = l.length → Ev (fun k => laws_eqOpS.l0 k l l (i : Int)) true := by
  intro d
  induction d with
  | zero =>
    intro i hi
    exact Ev.step (fun _ => rfl) (evElse (by omega) (Ev.now _))
  | succ d ih =>
    intro i hi
    refine Ev.step (fun _ => rfl) (evIf (by omega) (evIf (by omega) (evIf (by omega) (evPut (eq_laws_eqOp _ _ _ _ _ _ _ _ _ _ _ _) (evIf rfl ?_)))))
    rw [nat1 i (by omega)]
    exact ih (i + 1) (by omega)
theorem ev_laws_eqOpS (l : List S30) (hn : l.length ≤ 4611686018427387900) : Ev (fun k => laws_eqOpS.f k l l) true := by
  unfold laws_eqOpS.f
  exact evIf rfl (ev_laws_eqOpS_l l hn l.length 0 (by omega))
theorem eq_spec_stampLessL (a b c d : Int) : spec_stampLess.f a b c d = some (slt a b c d) := mq_spec_stampLess a b c d
theorem rd_iop (l : List S30) (i : Nat) (h : i < l.length) : rd_T30 l (i : Int) = l[i] := by simp [rd_T30, h]
def opvB (x : S30) : Bool := vopB x.f0.f0 x.f0.f1 x.f1 x.f2.f0 x.f2.f1 x.f3.f0 x.f3.f1 x.f4.f0 x.f4.f1 x.f5 x.f6 x.f7
/-- Each operation's ID is below the next one's. -/
def chB : List S30 → Bool
  | [] => true
  | [_] => true
  | x :: y :: r => slt x.f0.f0 x.f0.f1 y.f0.f0 y.f0.f1 && chB (y :: r)
/-- A valid log. -/
def lgB (l : List S30) : Bool := l.all opvB && (chB l && decide ((l.length : Int) ≤ 40))
theorem chB_end (l : List S30) (i : Nat) (h : l.length ≤ i) : chB (l.drop (i - 1)) = true := by
  by_cases h0 : l.length ≤ i - 1
  · rw [List.drop_of_length_le h0]; rfl
  · rw [dropCons l (i - 1) (by omega), List.drop_of_length_le (by omega)]; rfl
theorem chB_step (l : List S30) (i : Nat) (h0 : 0 < i) (h : i < l.length) : chB (l.drop (i - 1)) = (slt (l[i - 1]).f0.f0 (l[i - 1]).f0.f1 (l[i]).f0.f0 (l[i]).f0.f1 && chB (l.drop (i + 1 - 1))) := by
  have e : i - 1 + 1 = i := by omega
  rw [dropCons l (i - 1) (by omega), show i + 1 - 1 = i from by omega]
  simp only [e]
  rw [dropCons l i h]
  rfl
theorem ev_spec_validLog_l (l : List S30) (hn : l.length ≤ 4611686018427387900) (ht : ∀ x ∈ l, x.f7.size ≤ 9223372036854775807) : ∀ (d i : Nat), i + d = l.length → Ev (fun k => spec_validLog.l0 k l (i : Int)) ((l.drop i).all opvB && (chB (l.drop (i - 1)) && decide ((l.length : Int) ≤ 40))) := by
  intro d
  induction d with
  | zero =>
    intro i hi
    refine Ev.step (fun _ => rfl) (evElse (by omega) (evSome ?_))
    rw [List.drop_of_length_le (by omega), chB_end l i (by omega)]; rfl
  | succ d ih =>
    intro i hi
    have hl : i < l.length := by omega
    have hs := ht (l[i]) (List.getElem_mem hl)
    have hk := ih (i + 1) (by omega)
    refine Ev.step (fun _ => rfl) (evIf (by omega) (evIf (by omega) ?_))
    rw [rd_iop l i hl, nat1 i (by omega), dropCons l i hl, List.all_cons]
    refine evPut (a := opvB l[i]) (eq_spec_validOp _ _ _ _ _ _ _ _ _ _ _ _ hs) ?_
    cases h : opvB l[i] with
    | false => exact evElse (by simp) (evSome (by simp))
    | true =>
      refine evIf rfl ?_
      rw [Bool.true_and]
      by_cases h0 : 0 < i
      · have e : wrap64 ((i : Int) - 1) = ((i - 1 : Nat) : Int) := by rw [wrapId (by omega) (by omega)]; omega
        rw [e]
        refine evIf (by omega) (evIf (by omega) (evIf (by omega) ?_))
        rw [rd_iop l (i - 1) (by omega)]
        refine evPut (eq_spec_stampLessL _ _ _ _) ?_
        rw [chB_step l i h0 hl]
        cases h' : slt (l[i - 1]).f0.f0 (l[i - 1]).f0.f1 (l[i]).f0.f0 (l[i]).f0.f1 with
        | false => exact evElse (by simp) (evSome (by simp))
        | true => exact evIf rfl (evEq hk (by rw [Bool.true_and]))
      · obtain rfl : i = 0 := by omega
        exact evElse (by omega) (evEq hk (by rfl))
theorem ev_spec_validLog (l : List S30) (hn : l.length ≤ 4611686018427387900) (ht : ∀ x ∈ l, x.f7.size ≤ 9223372036854775807) : Ev (fun k => spec_validLog.f k l) (lgB l) := by
  unfold spec_validLog.f
  exact ev_spec_validLog_l l hn ht l.length 0 (by omega)
theorem ev_impl_ValidLog_l (l : List S30) (hn : l.length ≤ 4611686018427387900) (ht : ∀ x ∈ l, x.f7.size ≤ 9223372036854775807) : ∀ (d i : Nat), i + d = l.length → Ev (fun k => impl_ValidLog.l0 k l l (l.length : Int) (i : Int)) ((l.drop i).all opvB && (chB (l.drop (i - 1)) && decide ((l.length : Int) ≤ 40))) := by
  intro d
  induction d with
  | zero =>
    intro i hi
    refine Ev.step (fun _ => rfl) (evElse (by omega) (evSome ?_))
    rw [List.drop_of_length_le (by omega), chB_end l i (by omega)]; rfl
  | succ d ih =>
    intro i hi
    have hl : i < l.length := by omega
    have hs := ht (l[i]) (List.getElem_mem hl)
    have hk := ih (i + 1) (by omega)
    refine Ev.step (fun _ => rfl) (evIf (by omega) (evIf (by omega) (evIf (by omega) ?_)))
    rw [rd_iop l i hl, nat1 i (by omega), dropCons l i hl, List.all_cons]
    refine evPut (a := opvB l[i]) (eq_impl_ValidOp _ _ _ _ _ _ _ _ _ _ _ _ hs) ?_
    cases h : opvB l[i] with
    | false => exact evElse (by simp) (evSome (by simp))
    | true =>
      refine evIf rfl ?_
      rw [Bool.true_and]
      by_cases h0 : 0 < i
      · have e : wrap64 ((i : Int) - 1) = ((i - 1 : Nat) : Int) := by rw [wrapId (by omega) (by omega)]; omega
        rw [e]
        refine evIf (by omega) (evIf (by omega) (evIf (by omega) ?_))
        rw [rd_iop l (i - 1) (by omega)]
        refine evPut (mq_impl_StampLess _ _ _ _) ?_
        rw [chB_step l i h0 hl]
        cases h' : slt (l[i - 1]).f0.f0 (l[i - 1]).f0.f1 (l[i]).f0.f0 (l[i]).f0.f1 with
        | false => exact evElse (by simp) (evSome (by simp))
        | true => exact evIf rfl (evEq hk (by rw [Bool.true_and]))
      · obtain rfl : i = 0 := by omega
        exact evElse (by omega) (evEq hk (by rfl))
theorem ev_impl_ValidLog (l : List S30) (hn : l.length ≤ 4611686018427387900) (ht : ∀ x ∈ l, x.f7.size ≤ 9223372036854775807) : Ev (fun k => impl_ValidLog.f k l) (lgB l) := by
  unfold impl_ValidLog.f
  exact ev_impl_ValidLog_l l hn ht l.length 0 (by omega)
theorem ev_laws_markText_l : ∀ (m : Nat) (n : Int) (s : ByteArray), 0 ≤ n → n < 9223372036854775808 → n < 10 ^ m → s.size + m ≤ 1000 → ∃ r, Ev (fun k => laws_markText.l0 k n s) r := by
  intro m
  induction m with
  | zero =>
    intro n s h0 _ h1 h2
    have h1' : n < 1 := h1
    exact ⟨_, Ev.step (fun _ => rfl) (evElse (by omega) (evIf (by omega) (Ev.now _)))⟩
  | succ m ih =>
    intro n s h0 h3 h1 h2
    by_cases h : n > 0
    · have h1' : n < 10 ^ m * 10 := by rw [← Int.pow_succ]; exact h1
      have e1 : wrap64 (Int.tdiv n 10) = n / 10 := by rw [Int.tdiv_eq_ediv_of_nonneg h0, wrapId (by omega) (by omega)]
      generalize (10 : Int) ^ m = p at ih h1'
      obtain ⟨r, er⟩ := ih (n / 10) (strOfNums [wrap64 (48 + Int.tmod n 10) % 256] ++ s) (by omega) (by omega) (by omega) (by rw [ByteArray.size_append, strOfNums_size]; simp only [List.length_singleton]; omega)
      refine ⟨r, Ev.step (fun _ => rfl) (evIf h (evPut rfl (evIf (by rw [strOfNums_size]; simp only [List.length_singleton]; omega) ?_)))⟩
      rw [e1]
      exact er
    · exact ⟨_, Ev.step (fun _ => rfl) (evElse h (evIf (by omega) (Ev.now _)))⟩
theorem ev_laws_markText (n : Int) (h0 : 0 ≤ n) (h1 : n ≤ 100000000012) : ∃ r, Ev (fun k => laws_markText.f k n) r := by
  unfold laws_markText.f
  by_cases h : n ≤ 0
  · exact ⟨_, evIf h (Ev.now _)⟩
  · obtain ⟨r, er⟩ := ev_laws_markText_l 19 n ⟨#[]⟩ h0 (by omega) (by omega) (by decide)
    exact ⟨r, evElse h er⟩
/-- The elements are marked from a on. -/
def MK : Int → List S30 → Prop
  | _, [] => True
  | a, x :: r => (∃ s, Ev (fun k => laws_markText.f k (a + 11)) s ∧ x = mkS a s) ∧ MK (a + 12) r
theorem ev_markL : ∀ (l : List S30) (a : Int), 0 ≤ a → a + 12 * (l.length : Int) ≤ 100000000000 → ∃ m, Ev (fun k => markL k a l) (a + 12 * (l.length : Int), m) ∧ m.length = l.length ∧ MK a m
  | [], a, _, _ => ⟨[], Ev.congr (fun _ => by rw [markL]) (evSome (by simp)), rfl, trivial⟩
  | x :: r, a, h0, h1 => by
    rw [List.length_cons] at h1
    obtain ⟨s, es⟩ := ev_laws_markText (a + 11) (by omega) (by omega)
    obtain ⟨m, em, ml, mk⟩ := ev_markL r (a + 12) (by omega) (by omega)
    refine ⟨mkS a s :: m, Ev.congr (fun _ => by rw [markL]) (evBind es (evBind (f := fun _ q => some (q.1, mkS a s :: q.2)) em ?_)), by simp [ml], ⟨s, es, rfl⟩, mk⟩
    refine evSome ?_
    rw [List.length_cons]; simp only [Prod.mk.injEq, and_true]; omega
theorem ev_laws_markOpS (l : List S30) (a : Int) (hn : l.length ≤ 4000000) (h0 : 0 ≤ a) (h1 : a + 12 * l.length ≤ 100000000000) : ∃ m, Ev (fun k => laws_markOpS.f k l a) (a + 12 * l.length, m) ∧ m.length = l.length ∧ MK a m := by
  obtain ⟨m, em, ml, mk⟩ := ev_markL l a h0 h1
  exact ⟨m, evIf ⟨⟨h0, h1⟩, hn⟩ em, ml, mk⟩
theorem ev_heldL : ∀ (l : List S30) (a : Int), MK a l → Ev (fun k => heldL k a l) (a + 12 * (l.length : Int))
  | [], a, _ => Ev.congr (fun _ => by rw [heldL]) (evSome (by simp))
  | x :: r, a, ⟨⟨s, es, hx⟩, hm⟩ => by
    subst hx
    refine Ev.congr (fun _ => by rw [heldL]) (evBind es (evIf (show isM (mkS a s) a s from ⟨rfl, rfl, rfl, rfl, rfl, rfl, rfl, rfl, rfl, rfl, rfl, rfl⟩) (evEq (ev_heldL r (a + 12) hm) ?_)))
    rw [List.length_cons]; omega
theorem ev_laws_heldOpS (l : List S30) (a : Int) (hn : l.length ≤ 4000000) (h0 : 0 ≤ a) (h1 : a + 12 * l.length ≤ 100000000000) (hm : MK a l) : Ev (fun k => laws_heldOpS.f k l a) (a + 12 * l.length) :=
  evIf ⟨⟨h0, h1⟩, hn⟩ (ev_heldL l a hm)
theorem sltTrans {a b c d e f : Int} (h : slt a b c d = true) (k : slt c d e f = true) : slt a b e f = true := by
  simp only [slt, decide_eq_true_eq] at h k ⊢; omega
/-- x's ID is below y's. -/
def idlt (x y : S30) : Prop := slt x.f0.f0 x.f0.f1 y.f0.f0 y.f0.f1 = true
theorem chB_pair : ∀ l : List S30, chB l = true → l.Pairwise idlt
  | [], _ => List.Pairwise.nil
  | [x], _ => List.pairwise_singleton _ _
  | x :: y :: r, h => by
    simp only [chB, Bool.and_eq_true] at h
    have ih := chB_pair (y :: r) h.2
    refine List.pairwise_cons.mpr ⟨fun z hz => ?_, ih⟩
    rcases List.mem_cons.mp hz with rfl | hz
    · exact h.1
    · exact sltTrans h.1 ((List.pairwise_cons.mp ih).1 z hz)
/-- What a valid log has. -/
structure LG (l : List S30) : Prop where
  len : l.length ≤ 40
  val : ∀ x ∈ l, opvB x = true
  pair : l.Pairwise idlt
theorem lg_of {l : List S30} (h : lgB l = true) : LG l := by
  simp only [lgB, Bool.and_eq_true, List.all_eq_true, decide_eq_true_eq] at h
  exact ⟨by omega, h.1, chB_pair l h.2.1⟩
theorem opv_vst {x : S30} (h : opvB x = true) : (1 ≤ x.f0.f0 ∧ x.f0.f0 ≤ 99) ∧ 0 ≤ x.f0.f1 ∧ x.f0.f1 ≤ 2 := by
  simp only [opvB, vopB, Bool.and_eq_true, vst, decide_eq_true_eq] at h
  exact h.1
/-- The law's own arguments, converted. -/
theorem cv_fact (l : List S25) (hl : (l.length : Int) ≤ 1048576) (ht : ∀ x ∈ l, x.f7.size ≤ 9223372036854775807) : (l.map cvOp).length ≤ 1048576 ∧ (∀ x ∈ l.map cvOp, x.f7.size ≤ 9223372036854775807) := by
  refine ⟨by rw [List.length_map]; omega, fun x hx => ?_⟩
  obtain ⟨y, hy, rfl⟩ := List.mem_map.mp hx
  exact ht y hy
/-- The operations that a vector covers (c), or doesn't. -/
def byV (v : List Int) (c : Bool) (l : List S30) : List S30 := l.filter fun x => decide (x.f0.f0 ≤ rd v x.f0.f1) == c
theorem byV_cons (v : List Int) (c : Bool) (x : S30) (l : List S30) : byV v c (x :: l) = if (decide (x.f0.f0 ≤ rd v x.f0.f1) == c) = true then x :: byV v c l else byV v c l := by
  unfold byV; rw [List.filter_cons]
theorem ev_spec_logPrefix_l (l : List S30) (v : List Int) (hg : LG l) (hv : v.length = 3) : ∀ (d i : Nat) (o : List S30), i + d = l.length → o.length ≤ i → Ev (fun k => spec_logPrefix.l0 k l v o (i : Int)) (o ++ byV v true (l.drop i)) := by
  have hn := hg.len
  intro d
  induction d with
  | zero =>
    intro i o hi ho
    refine Ev.step (fun _ => rfl) (evElse (by omega) (evSome ?_))
    rw [List.drop_of_length_le (by omega)]; simp [byV]
  | succ d ih =>
    intro i o hi ho
    have hl : i < l.length := by omega
    have hx := opv_vst (hg.val l[i] (List.getElem_mem hl))
    refine Ev.step (fun _ => rfl) (evIf (by omega) (evIf (by omega) ?_))
    rw [rd_iop l i hl, nat1 i (by omega), dropCons l i hl, byV_cons]
    refine evPut (eq_spec_vectorContains v _ _ hv hx.2) ?_
    cases c : decide ((l[i]).f0.f0 ≤ rd v (l[i]).f0.f1) with
    | false => exact evElse (by simp) (ih (i + 1) o (by omega) (by omega))
    | true =>
      refine evIf rfl (evIf (by omega) (evEq (ih (i + 1) (o ++ [l[i]]) (by omega) (by simp; omega)) ?_))
      simp
theorem ev_spec_LogPrefix (l : List S30) (v : List Int) (hn : l.length ≤ 1048576) (ht : ∀ x ∈ l, x.f7.size ≤ 9223372036854775807) (hv : v.length ≤ 2000000) : Ev (fun k => spec_LogPrefix.f k l v) (if lgB l = true ∧ vv v = true then byV v true l else []) := by
  unfold spec_LogPrefix.f
  refine evBind (ev_spec_validLog l (by omega) ht) ?_
  cases hg : lgB l with
  | false => exact evElse (by simp) (evSome (by simp))
  | true =>
    refine evIf rfl (evBind (ev_spec_validVector v hv) ?_)
    cases hvv : vv v with
    | false => exact evElse (by simp) (evSome (by simp))
    | true => exact evIf rfl (evBind (ev_spec_logPrefix_l l v (lg_of hg) (vv_length hvv) l.length 0 [] (by omega) (by simp)) (evSome (by simp)))
theorem ev_impl_logBy_l (l : List S30) (v : List Int) (c : Bool) (hg : LG l) (hv : vv v = true) : ∀ (d i : Nat) (o : List S30), i + d = l.length → o.length ≤ i → Ev (fun k => impl_logBy.l0 k v c o l (l.length : Int) (i : Int)) (o ++ byV v c (l.drop i)) := by
  have hn := hg.len
  have h3 := vv_length hv
  intro d
  induction d with
  | zero =>
    intro i o hi ho
    refine Ev.step (fun _ => rfl) (evElse (by omega) (evSome ?_))
    rw [List.drop_of_length_le (by omega)]; simp [byV]
  | succ d ih =>
    intro i o hi ho
    have hl : i < l.length := by omega
    have hx := opv_vst (hg.val l[i] (List.getElem_mem hl))
    refine Ev.step (fun _ => rfl) (evIf (by omega) (evIf (by omega) (evIf (by omega) ?_)))
    rw [rd_iop l i hl, nat1 i (by omega), dropCons l i hl, byV_cons]
    refine evBind (ev_impl_VectorContains v _ _ (by omega)) ?_
    have e : vco v (l[i]).f0.f0 (l[i]).f0.f1 = decide ((l[i]).f0.f0 ≤ rd v (l[i]).f0.f1) := by
      have hs : vst (l[i]).f0.f0 (l[i]).f0.f1 = true := by simp only [vst, decide_eq_true_eq]; exact hx
      rw [vco, hv, hs, Bool.true_and, Bool.true_and]
    rw [e]
    by_cases k : (decide ((l[i]).f0.f0 ≤ rd v (l[i]).f0.f1) == c) = true
    · refine evIf k (evIf (by omega) (evEq (ih (i + 1) (o ++ [l[i]]) (by omega) (by simp; omega)) ?_))
      rw [if_pos k]; simp
    · refine evElse k (evEq (ih (i + 1) o (by omega) (by omega)) ?_)
      rw [if_neg k]
theorem ev_impl_logBy (l : List S30) (v : List Int) (c : Bool) (hn : l.length ≤ 1048576) (ht : ∀ x ∈ l, x.f7.size ≤ 9223372036854775807) (hv : v.length ≤ 2000000) : Ev (fun k => impl_logBy.f k l v c) (if lgB l = true ∧ vv v = true then byV v c l else []) := by
  unfold impl_logBy.f
  refine evBind (ev_impl_ValidLog l (by omega) ht) ?_
  cases hg : lgB l with
  | false => exact evElse (by simp) (evSucc (by simp only [impl_logBy.j0, if_true]; exact evSome (by simp)))
  | true =>
    refine evIf rfl (evBind (ev_impl_ValidVector v hv) ?_)
    cases hvv : vv v with
    | false => exact evSucc (by simp only [impl_logBy.j0, Bool.not_false, if_true]; exact evSome (by simp))
    | true => exact evSucc (by simp only [impl_logBy.j0, Bool.not_true, Bool.false_eq_true, if_false]; exact (evEq (ev_impl_logBy_l l v c (lg_of hg) hvv l.length 0 [] (by omega) (by simp)) (by simp)))
theorem ev_impl_LogPrefix (l : List S30) (v : List Int) (hn : l.length ≤ 1048576) (ht : ∀ x ∈ l, x.f7.size ≤ 9223372036854775807) (hv : v.length ≤ 2000000) : Ev (fun k => impl_LogPrefix.f k l v) (if lgB l = true ∧ vv v = true then byV v true l else []) := by
  unfold impl_LogPrefix.f
  exact evBind (ev_impl_logBy l v true hn ht hv) (Ev.now _)
theorem FnExactLogPrefix : ∀ (l0 : List S25) (l1 : List Int), l0.length ≤ maxLen → (∀ x ∈ l0, ((Lit.int .i64 x.f0.f0).wf = true ∧ (Lit.int .i64 x.f0.f1).wf = true) ∧ (Lit.int .i64 x.f1).wf = true ∧ ((Lit.int .i64 x.f2.f0).wf = true ∧ (Lit.int .i64 x.f2.f1).wf = true) ∧ ((Lit.int .i64 x.f3.f0).wf = true ∧ (Lit.int .i64 x.f3.f1).wf = true) ∧ ((Lit.int .i64 x.f4.f0).wf = true ∧ (Lit.int .i64 x.f4.f1).wf = true) ∧ (Lit.int .i64 x.f5).wf = true ∧ True ∧ x.f7.size ≤ maxLen) → l1.length ≤ maxLen → l1.length * 8 ≤ 140737488351232 → (∀ x ∈ l1, (Lit.int .i64 x).wf = true) → ∃ k, laws_FnExactLogPrefix.f k l0 l1 = some true := by
  intro l v hl hq _ _ _
  have hn : l.length ≤ 9223372036854775807 := by simp only [maxLen] at hl; omega
  have ht : ∀ x ∈ l, x.f7.size ≤ 9223372036854775807 := fun x hx => by have h := (hq x hx).2.2.2.2.2.2.2; simp only [maxLen] at h; omega
  apply Ev.rounds
  unfold laws_FnExactLogPrefix.f
  by_cases hv : (v.length : Int) > 1048576
  · exact evIf hv (Ev.now _)
  have hv' : v.length ≤ 2000000 := by omega
  refine evElse hv ?_
  obtain ⟨r, er, hr⟩ := ev_laws_szOpS l hn ht 1048576 (by omega) (by omega)
  refine evBind er ?_
  by_cases h0 : r < 0
  · exact evIf h0 (Ev.now _)
  obtain ⟨_, h1, h2⟩ := hr (by omega)
  obtain ⟨ln, lt⟩ := cv_fact l h1 ht
  have eT := ev_laws_toOpS l (by omega)
  have eV := ev_laws_toIntS v hv'
  have hM := ev_impl_LogPrefix (l.map cvOp) v ln lt hv'
  have hm : (if lgB (l.map cvOp) = true ∧ vv v = true then byV v true (l.map cvOp) else ([] : List S30)).length ≤ 1048576 := by
    split
    · exact Nat.le_trans (List.length_filter_le _ _) ln
    · simp
  refine evElse h0 (evBind eT (evBind eV (evBind (ev_spec_LogPrefix _ v ln lt hv') (evBind eT (evBind eV (evBind hM ?_))))))
  generalize (if lgB (l.map cvOp) = true ∧ vv v = true then byV v true (l.map cvOp) else ([] : List S30)) = m at hm hM ⊢
  obtain ⟨mm, em, _, _⟩ := ev_laws_markOpS (l.map cvOp) 1 (by omega) (by omega) (by omega)
  obtain ⟨m2, em2, ml, mk⟩ := ev_laws_markOpS m 1 (by omega) (by omega) (by omega)
  have eM := ev_laws_eqOpS m (by omega)
  have eH := ev_laws_heldOpS m2 1 (by omega) (by omega) (by omega) mk
  rw [ml] at eH
  have eI := ev_laws_markIntS v (1 + 12 * ((l.map cvOp).length : Int)) hv' (by omega) (by omega)
  refine evBind eM (evIf rfl (evBind eT (evBind (ev_laws_eqOpS _ (by omega)) (evIf rfl (evBind eV (evBind (ev_laws_eqIntS v v hv') (evIf (by simp) (evBind em (evBind eI (evElse (by simp only; omega) (evBind eM ?_)))))))))))
  refine evSucc ?_
  simp only [laws_FnExactLogPrefix.j0, Bool.not_true, Bool.false_eq_true, if_false]
  refine evBind em2 (evBind eH (evElse (by omega) (evIf rfl ?_)))
  refine evBind eT (evBind eV (evBind hM (evBind eM (evIf rfl ?_))))
  exact evBind eH (evElse (by omega) (evIf rfl (Ev.now _)))

end Go.Proofs.Ytomigiindmojkaa.Pure

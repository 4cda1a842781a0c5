/- The plain side of the statement FnExactActiveOps: the printed functions answer true at every input. Conditions: none beyond the given statement's own. -/
import Derived.Test.YtomigiindmojkaaQKx29
import Derived.Test.YtomigiindmojkaaBase
namespace Go.Proofs.Ytomigiindmojkaa.Pure
open Go.RowKit Go.Proofs.Ytomigiindmojkaa.QK Go.Proofs.YtomigiindmojkaaW.PrintWords Go.Proofs.YtomigiindmojkaaW.PrintLast Go.Proofs.Ytomigiindmojkaa.Base
set_option linter.unusedVariables false
set_option linter.unusedSimpArgs false

def iota (a : Int) (n : Nat) : List Int := (List.range n).map fun i : Nat => a + (i : Int)
theorem iota_length (a : Int) (n : Nat) : (iota a n).length = n := by simp [iota]
theorem iota_succ (a : Int) (n : Nat) : iota a (n + 1) = a :: iota (a + 1) n := by
  simp only [iota, List.range_succ_eq_map, List.map_cons, List.map_map]
  congr 1
  · simp
  · apply List.map_congr_left; intro i _; simp only [Function.comp]; omega
theorem eq_spec_validOp (i0 i1 kd t0 t1 a0 a1 n0 n1 v : Int) (en : Bool) (tx : ByteArray) (hn : tx.size ≤ 9223372036854775807) : spec_validOp.f i0 i1 kd t0 t1 a0 a1 n0 n1 v en tx = some (vopB i0 i1 kd t0 t1 a0 a1 n0 n1 v en tx) := if_pos hn
theorem eq_impl_ValidOp (i0 i1 kd t0 t1 a0 a1 n0 n1 v : Int) (en : Bool) (tx : ByteArray) (hn : tx.size ≤ 9223372036854775807) : impl_ValidOp.f i0 i1 kd t0 t1 a0 a1 n0 n1 v en tx = some (vopB i0 i1 kd t0 t1 a0 a1 n0 n1 v en tx) := if_pos hn
theorem eq_laws_toOp (i0 i1 kd t0 t1 a0 a1 n0 n1 v : Int) (en : Bool) (tx : ByteArray) : laws_toOp.f i0 i1 kd t0 t1 a0 a1 n0 n1 v en tx = some (i0, i1, kd, t0, t1, a0, a1, n0, n1, v, en, tx) := rfl
theorem eq_laws_szOp (i0 i1 kd t0 t1 a0 a1 n0 n1 v : Int) (en : Bool) (tx : ByteArray) (b : Int) : laws_szOp.f i0 i1 kd t0 t1 a0 a1 n0 n1 v en tx b = some (if wrap64 (b - (tx.size : Int)) < 0 then -1 else wrap64 (b - (tx.size : Int))) := by
  unfold laws_szOp.f
  split <;> rfl
theorem subW {b n : Int} (h0 : 0 ≤ b) (h1 : b ≤ 4611686018427387904) (h2 : 0 ≤ n) (h3 : n ≤ 9223372036854775807) : wrap64 (b - n) = b - n := wrapId (by omega) (by omega)
theorem nat1 (i : Nat) (h : i < 4611686018427387904) : wrap64 ((i : Int) + 1) = ((i + 1 : Nat) : Int) := wrapSucc i h
theorem rd_lop (l : List S25) (i : Nat) (h : i < l.length) : rd_T25 l (i : Int) = l[i] := by simp [rd_T25, h]
theorem ev_laws_szOpS_l (l : List S25) (hn : l.length ≤ 4611686018427387900) (ht : ∀ x ∈ l, x.f7.size ≤ 9223372036854775807) : ∀ (d i : Nat) (b : Int), i + d = l.length → 0 ≤ b → b ≤ 1048576 → ∃ r, Ev (fun k => laws_szOpS.l0 k l b (i : Int)) r ∧ (0 ≤ r → r ≤ b ∧ ∀ x ∈ l.drop i, (x.f7.size : Int) ≤ b) := by
  intro d
  induction d with
  | zero =>
    intro i b hi h0 h1
    refine ⟨b, Ev.step (fun _ => rfl) (evElse (by omega) (Ev.now _)), fun _ => ⟨Int.le_refl _, ?_⟩⟩
    rw [List.drop_of_length_le (by omega)]
    exact fun x hx => absurd hx (by simp)
  | succ d ih =>
    intro i b hi h0 h1
    have hl : i < l.length := by omega
    have hs := ht (l[i]) (List.getElem_mem hl)
    by_cases hb : b - ((l[i]).f7.size : Int) < 0
    · refine ⟨-1, Ev.step (fun _ => rfl) (evIf (by omega) (evIf (by omega) (evPut (a := -1) ?_ (evIf (by omega) (Ev.now _))))), fun h => absurd h (by omega)⟩
      rw [rd_lop l i hl, eq_laws_szOp, subW h0 (by omega) (by omega) (by omega), if_pos hb]
    · obtain ⟨r, e, k⟩ := ih (i + 1) (b - ((l[i]).f7.size : Int)) (by omega) (by omega) (by omega)
      refine ⟨r, Ev.step (fun _ => rfl) (evIf (by omega) (evIf (by omega) (evPut (a := b - ((l[i]).f7.size : Int)) ?_ (evElse hb ?_)))), fun h => ?_⟩
      · rw [rd_lop l i hl, eq_laws_szOp, subW h0 (by omega) (by omega) (by omega), if_neg hb]
      · rw [nat1 i (by omega)]; exact e
      · obtain ⟨k1, k2⟩ := k h
        refine ⟨by omega, fun x hx => ?_⟩
        rw [dropCons l i hl] at hx
        rcases List.mem_cons.mp hx with rfl | hx
        · omega
        · have := k2 x hx; omega
theorem ev_laws_szOpS (l : List S25) (hn : l.length ≤ 9223372036854775807) (ht : ∀ x ∈ l, x.f7.size ≤ 9223372036854775807) (b : Int) (h0 : 0 ≤ b) (h1 : b ≤ 1048576) : ∃ r, Ev (fun k => laws_szOpS.f k l b) r ∧ (0 ≤ r → r ≤ b ∧ (l.length : Int) ≤ b ∧ ∀ x ∈ l, (x.f7.size : Int) ≤ b) := by
  unfold laws_szOpS.f
  rw [subW h0 (by omega) (by omega) (by omega)]
  by_cases h : b - (l.length : Int) < 0
  · exact ⟨-1, evIf h (Ev.now _), fun h => absurd h (by omega)⟩
  · obtain ⟨r, e, k⟩ := ev_laws_szOpS_l l (by omega) ht l.length 0 (b - (l.length : Int)) (by omega) (by omega) (by omega)
    refine ⟨r, evElse h e, fun h => ?_⟩
    obtain ⟨k1, k2⟩ := k h
    exact ⟨by omega, by omega, fun x hx => by have := k2 x hx; omega⟩
/-- The conversion of an operation. -/
def cvOp (x : S25) : S30 := ⟨⟨x.f0.f0, x.f0.f1⟩, x.f1, ⟨x.f2.f0, x.f2.f1⟩, ⟨x.f3.f0, x.f3.f1⟩, ⟨x.f4.f0, x.f4.f1⟩, x.f5, x.f6, x.f7⟩
theorem ev_laws_toOpS_l (l : List S25) (hn : l.length ≤ 2706490160679) : ∀ (d i : Nat) (m : List S30), i + d = l.length → m.length = l.length → m.take i = (l.take i).map cvOp → Ev (fun k => laws_toOpS.l0 k l m (i : Int)) (l.map cvOp) := by
  intro d
  induction d with
  | zero =>
    intro i m hi hm ht
    refine Ev.step (fun _ => rfl) (evElse (by omega) (evSome ?_))
    rw [List.take_of_length_le (by omega), List.take_of_length_le (by omega)] at ht
    exact ht
  | succ d ih =>
    intro i m hi hm ht
    have hl : i < l.length := by omega
    refine Ev.step (fun _ => rfl) (evIf (by omega) (evIf (by omega) (evPut (eq_laws_toOp _ _ _ _ _ _ _ _ _ _ _ _) (evIf (by omega) ?_))))
    rw [nat1 i (by omega), rd_lop l i hl]
    refine ih (i + 1) _ (by omega) (by rw [List.length_set]; exact hm) ?_
    rw [takeSucc _ i (by rw [List.length_set]; omega), takeSucc l i hl, List.map_append, List.map_singleton, ← ht]
    congr 1
    · rw [Int.toNat_natCast, List.take_set_of_le (Nat.le_refl i)]
    · simp [cvOp]
theorem ev_laws_toOpS (l : List S25) (hn : l.length ≤ 2706490160679) : Ev (fun k => laws_toOpS.f k l) (l.map cvOp) := by
  unfold laws_toOpS.f
  refine evIf (by omega) (evIf (by omega) ?_)
  exact ev_laws_toOpS_l l hn l.length 0 _ (by omega) (by simp) (by simp)
theorem eq_laws_eqOp (a0 a1 a2 a3 a4 a5 a6 a7 a8 a9 : Int) (a10 : Bool) (a11 : ByteArray) : laws_eqOp.f a0 a1 a2 a3 a4 a5 a6 a7 a8 a9 a10 a11 a0 a1 a2 a3 a4 a5 a6 a7 a8 a9 a10 a11 = some true := by
  unfold laws_eqOp.f
  simp [opB, stB]
theorem ev_laws_eqOpS_l (l : List S30) (hn : l.length ≤ 4611686018427387900) : ∀ (d i : Nat), i + d = l.length → Ev (fun k => laws_eqOpS.l0 k l l (i : Int)) true := by
  intro d
  induction d with
  | zero =>
    intro i hi
    exact Ev.step (fun _ => rfl) (evElse (by omega) (Ev.now _))
  | succ d ih =>
    intro i hi
    refine Ev.step (fun _ => rfl) (evIf (by omega) (evIf (by omega) (evIf (by omega) (evPut (eq_laws_eqOp _ _ _ _ _ _ _ _ _ _ _ _) (evIf rfl ?_)))))
    rw [nat1 i (by omega)]
    exact ih (i + 1) (by omega)
theorem ev_laws_eqOpS (l : List S30) (hn : l.length ≤ 4611686018427387900) : Ev (fun k => laws_eqOpS.f k l l) true := by
  unfold laws_eqOpS.f
  exact evIf rfl (ev_laws_eqOpS_l l hn l.length 0 (by omega))
theorem eq_spec_stampLessL (a b c d : Int) : spec_stampLess.f a b c d = some (slt a b c d) := mq_spec_stampLess a b c d
theorem rd_iop (l : List S30) (i : Nat) (h : i < l.length) : rd_T30 l (i : Int) = l[i] := by simp [rd_T30, h]
def opvB (x : S30) : Bool := vopB x.f0.f0 x.f0.f1 x.f1 x.f2.f0 x.f2.f1 x.f3.f0 x.f3.f1 x.f4.f0 x.f4.f1 x.f5 x.f6 x.f7
/-- Each operation's ID is below the next one's. -/
def chB : List S30 → Bool
  | [] => true
  | [_] => true
  | x :: y :: r => slt x.f0.f0 x.f0.f1 y.f0.f0 y.f0.f1 && chB (y :: r)
/-- A valid log. -/
def lgB (l : List S30) : Bool := l.all opvB && (chB l && decide ((l.length : Int) ≤ 40))
theorem chB_end (l : List S30) (i : Nat) (h : l.length ≤ i) : chB (l.drop (i - 1)) = true := by
  by_cases h0 : l.length ≤ i - 1
  · rw [List.drop_of_length_le h0]; rfl
  · rw [dropCons l (i - 1) (by omega), List.drop_of_length_le (by omega)]; rfl
theorem chB_step (l : List S30) (i : Nat) (h0 : 0 < i) (h : i < l.length) : chB (l.drop (i - 1)) = (slt (l[i - 1]).f0.f0 (l[i - 1]).f0.f1 (l[i]).f0.f0 (l[i]).f0.f1 && chB (l.drop (i + 1 - 1))) := by
  have e : i - 1 + 1 = i := by omega
  rw [dropCons l (i - 1) (by omega), show i + 1 - 1 = i from by omega]
  simp only [e]
  rw [dropCons l i h]
  rfl
theorem ev_spec_validLog_l (l : List S30) (hn : l.length ≤ 4611686018427387900) (ht : ∀ x ∈ l, x.f7.size ≤ 9223372036854775807) : ∀ (d i : Nat), i + d = l.length → Ev (fun k => spec_validLog.l0 k l (i : Int)) ((l.drop i).all opvB && (chB (l.drop (i - 1)) && decide ((l.length : Int) ≤ 40))) := by
  intro d
  induction d with
  | zero =>
    intro i hi
    refine Ev.step (fun _ => rfl) (evElse (by omega) (evSome ?_))
    rw [List.drop_of_length_le (by omega), chB_end l i (by omega)]; rfl
  | succ d ih =>
    intro i hi
    have hl : i < l.length := by omega
    have hs := ht (l[i]) (List.getElem_mem hl)
    have hk := ih (i + 1) (by omega)
    refine Ev.step (fun _ => rfl) (evIf (by omega) (evIf (by omega) ?_))
    rw [rd_iop l i hl, nat1 i (by omega), dropCons l i hl, List.all_cons]
    refine evPut (a := opvB l[i]) (eq_spec_validOp _ _ _ _ _ _ _ _ _ _ _ _ hs) ?_
    cases h : opvB l[i] with
    | false => exact evElse (by simp) (evSome (by simp))
    | true =>
      refine evIf rfl ?_
      rw [Bool.true_and]
      by_cases h0 : 0 < i
      · have e : wrap64 ((i : Int) - 1) = ((i - 1 : Nat) : Int) := by rw [wrapId (by omega) (by omega)]; omega
        rw [e]
        refine evIf (by omega) (evIf (by omega) (evIf (by omega) ?_))
        rw [rd_iop l (i - 1) (by omega)]
        refine evPut (eq_spec_stampLessL _ _ _ _) ?_
        rw [chB_step l i h0 hl]
        cases h' : slt (l[i - 1]).f0.f0 (l[i - 1]).f0.f1 (l[i]).f0.f0 (l[i]).f0.f1 with
        | false => exact evElse (by simp) (evSome (by simp))
        | true => exact evIf rfl (evEq hk (by rw [Bool.true_and]))
      · obtain rfl : i = 0 := by omega
        exact evElse (by omega) (evEq hk (by rfl))
theorem ev_spec_validLog (l : List S30) (hn : l.length ≤ 4611686018427387900) (ht : ∀ x ∈ l, x.f7.size ≤ 9223372036854775807) : Ev (fun k => spec_validLog.f k l) (lgB l) := by
  unfold spec_validLog.f
  exact ev_spec_validLog_l l hn ht l.length 0 (by omega)
theorem ev_impl_ValidLog_l (l : List S30) (hn : l.length ≤ 4611686018427387900) (ht : ∀ x ∈ l, x.f7.size ≤ 9223372036854775807) : ∀ (d i : Nat), i + d = l.length → Ev (fun k => impl_ValidLog.l0 k l l (l.length : Int) (i : Int)) ((l.drop i).all opvB && (chB (l.drop (i - 1)) && decide ((l.length : Int) ≤ 40))) := by
  intro d
  induction d with
  | zero =>
    intro i hi
    refine Ev.step (fun _ => rfl) (evElse (by omega) (evSome ?_))
    rw [List.drop_of_length_le (by omega), chB_end l i (by omega)]; rfl
  | succ d ih =>
    intro i hi
    have hl : i < l.length := by omega
    have hs := ht (l[i]) (List.getElem_mem hl)
    have hk := ih (i + 1) (by omega)
    refine Ev.step (fun _ => rfl) (evIf (by omega) (evIf (by omega) (evIf (by omega) ?_)))
    rw [rd_iop l i hl, nat1 i (by omega), dropCons l i hl, List.all_cons]
    refine evPut (a := opvB l[i]) (eq_impl_ValidOp _ _ _ _ _ _ _ _ _ _ _ _ hs) ?_
    cases h : opvB l[i] with
    | false => exact evElse (by simp) (evSome (by simp))
    | true =>
      refine evIf rfl ?_
      rw [Bool.true_and]
      by_cases h0 : 0 < i
      · have e : wrap64 ((i : Int) - 1) = ((i - 1 : Nat) : Int) := by rw [wrapId (by omega) (by omega)]; omega
        rw [e]
        refine evIf (by omega) (evIf (by omega) (evIf (by omega) ?_))
        rw [rd_iop l (i - 1) (by omega)]
        refine evPut (mq_impl_StampLess _ _ _ _) ?_
        rw [chB_step l i h0 hl]
        cases h' : slt (l[i - 1]).f0.f0 (l[i - 1]).f0.f1 (l[i]).f0.f0 (l[i]).f0.f1 with
        | false => exact evElse (by simp) (evSome (by simp))
        | true => exact evIf rfl (evEq hk (by rw [Bool.true_and]))
      · obtain rfl : i = 0 := by omega
        exact evElse (by omega) (evEq hk (by rfl))
theorem ev_impl_ValidLog (l : List S30) (hn : l.length ≤ 4611686018427387900) (ht : ∀ x ∈ l, x.f7.size ≤ 9223372036854775807) : Ev (fun k => impl_ValidLog.f k l) (lgB l) := by
  unfold impl_ValidLog.f
  exact ev_impl_ValidLog_l l hn ht l.length 0 (by omega)
theorem ev_laws_markText_l : ∀ (m : Nat) (n : Int) (s : ByteArray), 0 ≤ n → n < 9223372036854775808 → n < 10 ^ m → s.size + m ≤ 1000 → ∃ r, Ev (fun k => laws_markText.l0 k n s) r := by
  intro m
  induction m with
  | zero =>
    intro n s h0 _ h1 h2
    have h1' : n < 1 := h1
    exact ⟨_, Ev.step (fun _ => rfl) (evElse (by omega) (evIf (by omega) (Ev.now _)))⟩
  | succ m ih =>
    intro n s h0 h3 h1 h2
    by_cases h : n > 0
    · have h1' : n < 10 ^ m * 10 := by rw [← Int.pow_succ]; exact h1
      have e1 : wrap64 (Int.tdiv n 10) = n / 10 := by rw [Int.tdiv_eq_ediv_of_nonneg h0, wrapId (by omega) (by omega)]
      generalize (10 : Int) ^ m = p at ih h1'
      obtain ⟨r, er⟩ := ih (n / 10) (strOfNums [wrap64 (48 + Int.tmod n 10) % 256] ++ s) (by omega) (by omega) (by omega) (by rw [ByteArray.size_append, strOfNums_size]; simp only [List.length_singleton]; omega)
      refine ⟨r, Ev.step (fun _ => rfl) (evIf h (evPut rfl (evIf (by rw [strOfNums_size]; simp only [List.length_singleton]; omega) ?_)))⟩
      rw [e1]
      exact er
    · exact ⟨_, Ev.step (fun _ => rfl) (evElse h (evIf (by omega) (Ev.now _)))⟩
theorem ev_laws_markText (n : Int) (h0 : 0 ≤ n) (h1 : n ≤ 100000000012) : ∃ r, Ev (fun k => laws_markText.f k n) r := by
  unfold laws_markText.f
  by_cases h : n ≤ 0
  · exact ⟨_, evIf h (Ev.now _)⟩
  · obtain ⟨r, er⟩ := ev_laws_markText_l 19 n ⟨#[]⟩ h0 (by omega) (by omega) (by decide)
    exact ⟨r, evElse h er⟩
/-- The elements are marked from a on. -/
def MK : Int → List S30 → Prop
  | _, [] => True
  | a, x :: r => (∃ s, Ev (fun k => laws_markText.f k (a + 11)) s ∧ x = mkS a s) ∧ MK (a + 12) r
theorem ev_markL : ∀ (l : List S30) (a : Int), 0 ≤ a → a + 12 * (l.length : Int) ≤ 100000000000 → ∃ m, Ev (fun k => markL k a l) (a + 12 * (l.length : Int), m) ∧ m.length = l.length ∧ MK a m
  | [], a, _, _ => ⟨[], Ev.congr (fun _ => by rw [markL]) (evSome (by simp)), rfl, trivial⟩
  | x :: r, a, h0, h1 => by
    rw [List.length_cons] at h1
    obtain ⟨s, es⟩ := ev_laws_markText (a + 11) (by omega) (by omega)
    obtain ⟨m, em, ml, mk⟩ := ev_markL r (a + 12) (by omega) (by omega)
    refine ⟨mkS a s :: m, Ev.congr (fun _ => by rw [markL]) (evBind es (evBind (f := fun _ q => some (q.1, mkS a s :: q.2)) em ?_)), by simp [ml], ⟨s, es, rfl⟩, mk⟩
    refine evSome ?_
    rw [List.length_cons]; simp only [Prod.mk.injEq, and_true]; omega
theorem ev_laws_markOpS (l : List S30) (a : Int) (hn : l.length ≤ 4000000) (h0 : 0 ≤ a) (h1 : a + 12 * l.length ≤ 100000000000) : ∃ m, Ev (fun k => laws_markOpS.f k l a) (a + 12 * l.length, m) ∧ m.length = l.length ∧ MK a m := by
  obtain ⟨m, em, ml, mk⟩ := ev_markL l a h0 h1
  exact ⟨m, evIf ⟨⟨h0, h1⟩, hn⟩ em, ml, mk⟩
theorem sltIrr (a b : Int) : slt a b a b = false := by simp [slt]
theorem sltTrans {a b c d e f : Int} (h : slt a b c d = true) (k : slt c d e f = true) : slt a b e f = true := by
  simp only [slt, decide_eq_true_eq] at h k ⊢; omega
def bmk (a : Int) (n : Nat) : List Bool := (iota a n).map fun v => Int.tmod v 3 == 0
theorem ev_laws_markBoolS_l0 : ∀ (d i : Nat) (x0 : List Bool) (a : Int), x0.length ≤ 2000000 → i + d = x0.length → 0 ≤ a → a + d ≤ 100000000000 → Ev (fun k => laws_markBoolS.l0 k x0 a (i : Int)) (a + d, x0.take i ++ bmk a d) := by
  intro d
  induction d with
  | zero =>
    intro i x0 a hn hi _ _
    refine Ev.step (fun _ => rfl) (evElse (by omega) (evSome ?_))
    rw [List.take_of_length_le (by omega)]; simp [bmk, iota]
  | succ d ih =>
    intro i x0 a hn hi h0 h1
    refine Ev.step (fun _ => rfl) (evIf (by omega) (evIf (by omega) ?_))
    rw [wrapSucc i (by omega), wrapId (x := a + 1) (by omega) (by omega)]
    refine evEq (ih (i + 1) _ (a + 1) (by simpa using hn) (by simp; omega) (by omega) (by omega)) ?_
    rw [takeSucc _ i (by simp; omega)]
    simp only [Int.toNat_natCast, List.getElem_set_self, List.take_set_of_le (Nat.le_refl i), List.append_assoc, List.singleton_append, bmk, iota_succ, List.map_cons]
    congr 1; omega
theorem ev_laws_markBoolS (l : List Bool) (a : Int) (hn : l.length ≤ 2000000) (h0 : 0 ≤ a) (h1 : a + l.length ≤ 100000000000) : Ev (fun k => laws_markBoolS.f k l a) (a + l.length, bmk a l.length) :=
  evEq (ev_laws_markBoolS_l0 l.length 0 l a hn (by omega) h0 h1) (by simp)
theorem rdOfAt (l : List Bool) (i : Nat) (h : i < l.length) : rdOf false l (i : Int) = l[i] := by simp [rdOf, h]
theorem ev_laws_heldBoolS_l0 : ∀ (d i : Nat) (x0 : List Bool) (a : Int), x0.length ≤ 2000000 → i + d = x0.length → 0 ≤ a → a + d ≤ 100000000000 → x0.drop i = bmk a d → Ev (fun k => laws_heldBoolS.l0 k x0 a (i : Int)) (a + d) := by
  intro d
  induction d with
  | zero =>
    intro i x0 a hn hi _ _ _
    exact Ev.step (fun _ => rfl) (evElse (by omega) (evSome (by simp)))
  | succ d ih =>
    intro i x0 a hn hi h0 h1 hd
    simp only [bmk] at hd ih
    rw [dropCons x0 i (by omega), iota_succ, List.map_cons] at hd
    injection hd with hd1 hd2
    refine Ev.step (fun _ => rfl) (evIf (by omega) (evIf (by omega) (evElse (by rw [rdOfAt _ _ (by omega), hd1]; simp) ?_)))
    rw [wrapSucc i (by omega), wrapId (x := a + 1) (by omega) (by omega)]
    exact evEq (ih (i + 1) x0 (a + 1) hn (by omega) (by omega) (by omega) hd2) (by omega)
theorem ev_laws_heldBoolS (n : Nat) (a : Int) (hn : n ≤ 2000000) (h0 : 0 ≤ a) (h1 : a + n ≤ 100000000000) : Ev (fun k => laws_heldBoolS.f k (bmk a n) a) (a + n) :=
  ev_laws_heldBoolS_l0 n 0 (bmk a n) a (by simp only [bmk, List.length_map, iota_length]; exact hn) (by simp only [bmk, List.length_map, iota_length]; omega) h0 h1 (by simp)
theorem ev_laws_eqBoolS_l (l : List Bool) (hn : l.length ≤ 2000000) : ∀ (d i : Nat), i + d = l.length → Ev (fun k => laws_eqBoolS.l0 k l l (i : Int)) true := by
  intro d
  induction d with
  | zero =>
    intro i hi
    exact Ev.step (fun _ => rfl) (evElse (by omega) (Ev.now _))
  | succ d ih =>
    intro i hi
    refine Ev.step (fun _ => rfl) (evIf (by omega) (evIf (by omega) (evIf (by omega) (evElse (by simp) ?_))))
    rw [wrapSucc i (by omega)]
    exact ih (i + 1) (by omega)
theorem ev_laws_eqBoolS (l : List Bool) (hn : l.length ≤ 2000000) : Ev (fun k => laws_eqBoolS.f k l l) true := by
  unfold laws_eqBoolS.f
  exact evIf rfl (ev_laws_eqBoolS_l l hn l.length 0 (by omega))
/-- x's ID is below y's. -/
def idlt (x y : S30) : Prop := slt x.f0.f0 x.f0.f1 y.f0.f0 y.f0.f1 = true
theorem chB_pair : ∀ l : List S30, chB l = true → l.Pairwise idlt
  | [], _ => List.Pairwise.nil
  | [x], _ => List.pairwise_singleton _ _
  | x :: y :: r, h => by
    simp only [chB, Bool.and_eq_true] at h
    have ih := chB_pair (y :: r) h.2
    refine List.pairwise_cons.mpr ⟨fun z hz => ?_, ih⟩
    rcases List.mem_cons.mp hz with rfl | hz
    · exact h.1
    · exact sltTrans h.1 ((List.pairwise_cons.mp ih).1 z hz)
/-- What a valid log has. -/
structure LG (l : List S30) : Prop where
  len : l.length ≤ 40
  val : ∀ x ∈ l, opvB x = true
  pair : l.Pairwise idlt
theorem lg_of {l : List S30} (h : lgB l = true) : LG l := by
  simp only [lgB, Bool.and_eq_true, List.all_eq_true, decide_eq_true_eq] at h
  exact ⟨by omega, h.1, chB_pair l h.2.1⟩
/-- IDs tell the places. -/
theorem lg_uniq {l : List S30} (h : l.Pairwise idlt) {p q : Nat} (hp : p < l.length) (hq : q < l.length) (e : (l[p]).f0.f0 = (l[q]).f0.f0 ∧ (l[p]).f0.f1 = (l[q]).f0.f1) : p = q := by
  have hh := List.pairwise_iff_getElem.mp h
  rcases Nat.lt_trichotomy p q with h1 | h1 | h1
  · have := hh p q hp hq h1
    rw [idlt, e.1, e.2, sltIrr] at this; cases this
  · exact h1
  · have := hh q p hq hp h1
    rw [idlt, e.1, e.2, sltIrr] at this; cases this
/-- The law's own arguments, converted. -/
theorem cv_fact (l : List S25) (hl : (l.length : Int) ≤ 1048576) (ht : ∀ x ∈ l, x.f7.size ≤ 9223372036854775807) : (l.map cvOp).length ≤ 1048576 ∧ (∀ x ∈ l.map cvOp, x.f7.size ≤ 9223372036854775807) := by
  refine ⟨by rw [List.length_map]; omega, fun x hx => ?_⟩
  obtain ⟨y, hy, rfl⟩ := List.mem_map.mp hx
  exact ht y hy
/-- x sets whether t is active. -/
def uC (x t : S30) : Bool := decide (x.f1 = 10) && ((x.f2.f0 == t.f0.f0 && (x.f2.f1 == t.f0.f1)) && (decide (x.f0.f1 = t.f0.f1) && !decide (t.f1 = 10)))
def actS (t : S30) (L : List S30) (b : Bool) : Bool := L.foldl (fun b x => if uC x t = true then x.f6 else b) b
def actL (l : List S30) : List Bool := l.map fun t => actS t l true
theorem uC_off {x t : S30} (h : ¬ (x.f1 = 10 ∧ (x.f2.f0 = t.f0.f0 ∧ x.f2.f1 = t.f0.f1) ∧ x.f0.f1 = t.f0.f1 ∧ ¬ t.f1 = 10)) : uC x t = false := by
  cases hc : uC x t with
  | false => rfl
  | true =>
    simp only [uC, Bool.and_eq_true, decide_eq_true_eq, beq_iff_eq, Bool.not_eq_true', decide_eq_false_iff_not] at hc
    exact absurd hc h
theorem actS_cons (t x : S30) (L : List S30) (b : Bool) : actS t (x :: L) b = actS t L (if uC x t = true then x.f6 else b) := rfl
theorem ev_spec_activeOps_l1 (l : List S30) (hn : l.length ≤ 1048576) (o : List Bool) (ho : o.length ≤ 1048576) (r : List Bool) (j : Nat) (hj : j < l.length) : ∀ (d i : Nat) (b : Bool), i + d = l.length → Ev (fun k => spec_activeOps.l0 k l (o ++ [actS l[j] (l.drop i) b]) (wrap64 ((j : Int) + 1))) r → Ev (fun k => spec_activeOps.l1 k l o (j : Int) b (i : Int)) r := by
  intro d
  induction d with
  | zero =>
    intro i b hi hk
    rw [List.drop_of_length_le (by omega)] at hk
    exact Ev.step (fun _ => rfl) (evElse (by omega) (evIf (by omega) hk))
  | succ d ih =>
    intro i b hi hk
    have hl : i < l.length := by omega
    rw [dropCons l i hl, actS_cons] at hk
    have hs := fun c => ih (i + 1) c (by omega)
    refine Ev.step (fun _ => rfl) (evIf (by omega) (evIf (by omega) ?_))
    rw [rd_iop l i hl, rd_iop l j hj, nat1 i (by omega)]
    by_cases c1 : (l[i]).f1 = 10
    · refine evIf c1 (evIf (by omega) (evIf (by omega) ?_))
      by_cases c2 : ((l[i]).f2.f0 == (l[j]).f0.f0 && ((l[i]).f2.f1 == (l[j]).f0.f1)) = true
      · refine evIf c2 ?_
        have c2' := c2
        simp only [Bool.and_eq_true, beq_iff_eq] at c2'
        by_cases c3 : (l[i]).f0.f1 = (l[j]).f0.f1
        · refine evIf c3 ?_
          by_cases c4 : (l[j]).f1 = 10
          · refine evIf c4 (hs b ?_)
            rw [uC_off (by simp [c4])] at hk
            exact hk
          · refine evElse c4 (hs _ ?_)
            have e : uC l[i] l[j] = true := by simp only [uC, c1, c2, c3, c4, decide_true, decide_false, Bool.not_false, Bool.and_self]
            rw [e] at hk
            exact hk
        · refine evElse c3 (hs b ?_)
          rw [uC_off (by simp [c3])] at hk
          exact hk
      · refine evElse c2 (hs b ?_)
        rw [uC_off (by simp only [Bool.and_eq_true, beq_iff_eq] at c2; exact fun h => c2 h.2.1)] at hk
        exact hk
    · refine evElse c1 (hs b ?_)
      rw [uC_off (by simp [c1])] at hk
      exact hk
/-- What an operation of kind 10 targets comes ahead of it. -/
theorem opv_ref {x : S30} (h : opvB x = true) (h10 : x.f1 = 10) : slt x.f2.f0 x.f2.f1 x.f0.f0 x.f0.f1 = true := by
  simp only [opvB, vopB, h10, Bool.and_eq_true] at h
  have h2 := h.2
  simp [refB] at h2
  exact h2.1.2
theorem lg_le {l : List S30} (hg : l.Pairwise idlt) {p q : Nat} (hq : q < l.length) (h : p ≤ q) : l[p] = l[q] ∨ idlt l[p] l[q] := by
  rcases Nat.eq_or_lt_of_le h with h1 | h1
  · subst h1; exact .inl rfl
  · exact .inr (List.pairwise_iff_getElem.mp hg p q (by omega) hq h1)
theorem uC_early {l : List S30} (hg : LG l) (i : Nat) (hi : i < l.length) (x : S30) (hx : x ∈ l.take (i + 1)) : uC x l[i] = false := by
  obtain ⟨p, hp, rfl⟩ := List.getElem_of_mem hx
  rw [List.length_take] at hp
  rw [List.getElem_take]
  refine uC_off fun h => ?_
  have h1 := opv_ref (hg.val _ (List.getElem_mem (by omega))) h.1
  rw [h.2.1.1, h.2.1.2] at h1
  rcases lg_le hg.pair (p := p) (q := i) hi (by omega) with h2 | h2
  · rw [h2, sltIrr] at h1; cases h1
  · have := sltTrans h1 h2
    rw [sltIrr] at this; cases this
theorem actS_none (t : S30) : ∀ (L : List S30) (b : Bool), (∀ x ∈ L, uC x t = false) → actS t L b = b
  | [], _, _ => rfl
  | x :: r, b, h => by
    rw [actS_cons, h x List.mem_cons_self]
    exact actS_none t r b (fun y hy => h y (List.mem_cons_of_mem _ hy))
theorem actS_app (t : S30) (L M : List S30) (b : Bool) : actS t (L ++ M) b = actS t M (actS t L b) := by simp [actS, List.foldl_append]
theorem actS_late {l : List S30} (hg : LG l) (i : Nat) (hi : i < l.length) : actS l[i] (l.drop (i + 1)) true = actS l[i] l true := by
  have e := actS_app l[i] (l.take (i + 1)) (l.drop (i + 1)) true
  rw [List.take_append_drop, actS_none _ _ _ (uC_early hg i hi)] at e
  exact e.symm
theorem ev_spec_activeOps_l0 (l : List S30) (hg : LG l) : ∀ (d j : Nat), j + d = l.length → Ev (fun k => spec_activeOps.l0 k l ((actL l).take j) (j : Int)) (actL l) := by
  have hn := hg.len
  have hL : (actL l).length = l.length := by simp [actL]
  intro d
  induction d with
  | zero =>
    intro j hj
    refine Ev.step (fun _ => rfl) (evElse (by omega) (evSome ?_))
    rw [List.take_of_length_le (by omega)]
  | succ d ih =>
    intro j hj
    have hl : j < l.length := by omega
    refine Ev.step (fun _ => rfl) (evIf (by omega) ?_)
    rw [nat1 j (by omega)]
    refine ev_spec_activeOps_l1 l (by omega) _ (by rw [List.length_take]; omega) _ j hl (l.length - (j + 1)) (j + 1) true (by omega) ?_
    rw [nat1 j (by omega), actS_late hg j hl]
    have e : (actL l).take j ++ [actS l[j] l true] = (actL l).take (j + 1) := by
      rw [takeSucc _ j (by omega)]; simp [actL]
    rw [e]
    exact ih (j + 1) (by omega)
theorem ev_spec_activeOps (l : List S30) (hg : LG l) : Ev (fun k => spec_activeOps.f k l) (actL l) := by
  unfold spec_activeOps.f
  exact evEq (ev_spec_activeOps_l0 l hg l.length 0 (by omega)) rfl
theorem ev_spec_ActiveOps (l : List S30) (hn : l.length ≤ 1048576) (ht : ∀ x ∈ l, x.f7.size ≤ 9223372036854775807) : Ev (fun k => spec_ActiveOps.f k l) (if lgB l = true then actL l else []) := by
  unfold spec_ActiveOps.f
  refine evBind (ev_spec_validLog l (by omega) ht) (evIte (fun h => evBind (ev_spec_activeOps l (lg_of h)) (Ev.now _)) (fun _ => Ev.now _))
theorem ev_impl_opAt_l (l : List S30) (hn : l.length ≤ 1048576) (q a : Int) : ∀ (d i : Nat), i + d = l.length → (∀ x ∈ l.take i, ¬ (x.f0.f0 = q ∧ x.f0.f1 = a)) → ∃ r, Ev (fun k => impl_opAt.l0 k l (l.length : Int) (i : Int) q a) r ∧ ((r = -1 ∧ ∀ x ∈ l, ¬ (x.f0.f0 = q ∧ x.f0.f1 = a)) ∨ ∃ (p : Nat) (hp : p < l.length), r = (p : Int) ∧ (l[p]).f0.f0 = q ∧ (l[p]).f0.f1 = a) := by
  intro d
  induction d with
  | zero =>
    intro i hi h
    rw [List.take_of_length_le (by omega)] at h
    exact ⟨-1, Ev.step (fun _ => rfl) (evElse (by omega) (Ev.now _)), .inl ⟨rfl, h⟩⟩
  | succ d ih =>
    intro i hi h
    have hl : i < l.length := by omega
    by_cases c : (l[i]).f0.f0 = q ∧ (l[i]).f0.f1 = a
    · refine ⟨(i : Int), Ev.step (fun _ => rfl) (evIf (by omega) (evIf (by omega) (evIf (by omega) (evIf ?_ (Ev.now _))))), .inr ⟨i, hl, rfl, c⟩⟩
      rw [rd_iop l i hl]; simp [c]
    · obtain ⟨r, er, hr⟩ := ih (i + 1) (by omega) (by
        intro x hx
        rw [takeSucc l i hl] at hx
        rcases List.mem_append.mp hx with hx | hx
        · exact h x hx
        · rw [List.mem_singleton.mp hx]; exact c)
      refine ⟨r, Ev.step (fun _ => rfl) (evIf (by omega) (evIf (by omega) (evIf (by omega) (evElse ?_ ?_)))), hr⟩
      · rw [rd_iop l i hl]; simp only [Bool.and_eq_true, beq_iff_eq]; exact c
      · rw [nat1 i (by omega)]; exact er
theorem ev_impl_opAt (l : List S30) (hn : l.length ≤ 1048576) (q a : Int) : ∃ r, Ev (fun k => impl_opAt.f k l q a) r ∧ ((r = -1 ∧ ∀ x ∈ l, ¬ (x.f0.f0 = q ∧ x.f0.f1 = a)) ∨ ∃ (p : Nat) (hp : p < l.length), r = (p : Int) ∧ (l[p]).f0.f0 = q ∧ (l[p]).f0.f1 = a) := by
  unfold impl_opAt.f
  exact ev_impl_opAt_l l hn q a l.length 0 (by omega) (by simp)
theorem actL_set {l : List S30} (hg : LG l) (L : List S30) (x : S30) (p : Nat) (hp : p < l.length) (h : uC x l[p] = true) : (l.map fun t => actS t L true).set p x.f6 = l.map fun t => actS t (L ++ [x]) true := by
  refine List.ext_getElem (by simp) fun q h1 h2 => ?_
  simp only [List.length_set, List.length_map] at h1
  rw [List.getElem_set]
  simp only [List.getElem_map, actS_app]
  by_cases e : p = q
  · subst e; rw [if_pos rfl, actS_cons, h]; rfl
  · rw [if_neg e, actS_cons]
    have hf : uC x l[q] = false := uC_off fun k => e (by
      simp only [uC, Bool.and_eq_true, decide_eq_true_eq, beq_iff_eq] at h
      exact lg_uniq hg.pair hp h1 ⟨by rw [← h.2.1.1, k.2.1.1], by rw [← h.2.1.2, k.2.1.2]⟩)
    rw [hf]; rfl
theorem actL_keep {l : List S30} (L : List S30) (x : S30) (h : ∀ t ∈ l, uC x t = false) : (l.map fun t => actS t L true) = l.map fun t => actS t (L ++ [x]) true := by
  apply List.map_congr_left
  intro t ht
  rw [actS_app, actS_cons, h t ht]; rfl
theorem ev_impl_active_l1 (l : List S30) (hg : LG l) : ∀ (d i : Nat), i + d = l.length → Ev (fun k => impl_active.l1 k l (l.map fun t => actS t (l.take i) true) l (l.length : Int) (i : Int)) (actL l) := by
  have hn := hg.len
  intro d
  induction d with
  | zero =>
    intro i hi
    refine Ev.step (fun _ => rfl) (evElse (by omega) (evSome ?_))
    rw [List.take_of_length_le (by omega)]; rfl
  | succ d ih =>
    intro i hi
    have hl : i < l.length := by omega
    have hk := ih (i + 1) (by omega)
    rw [takeSucc l i hl] at hk
    refine Ev.step (fun _ => rfl) (evIf (by omega) (evIf (by omega) (evIf (by omega) ?_)))
    rw [rd_iop l i hl, nat1 i (by omega)]
    by_cases c1 : (l[i]).f1 = 10
    · refine evIf c1 ?_
      obtain ⟨r, er, hr⟩ := ev_impl_opAt l (by omega) (l[i]).f2.f0 (l[i]).f2.f1
      refine evBind er ?_
      rcases hr with ⟨rfl, hr⟩ | ⟨p, hp, rfl, hr1, hr2⟩
      · refine evElse (by omega) ?_
        rw [actL_keep _ l[i] (fun t ht => uC_off fun h => hr t ht ⟨h.2.1.1.symm, h.2.1.2.symm⟩)]
        exact hk
      · refine evIf (by omega) (evIf (by omega) (evIf (by omega) ?_))
        rw [rd_iop l p hp]
        have un : ∀ t ∈ l, ((l[i]).f2.f0 = t.f0.f0 ∧ (l[i]).f2.f1 = t.f0.f1) → t = l[p] := fun t ht h => by
          obtain ⟨q, hq, rfl⟩ := List.getElem_of_mem ht
          have := lg_uniq hg.pair hq hp ⟨by rw [hr1, h.1], by rw [hr2, h.2]⟩
          subst this; rfl
        by_cases c2 : (l[p]).f1 = 10
        · refine evIf c2 ?_
          rw [actL_keep _ l[i] (fun t ht => uC_off fun h => by rw [un t ht h.2.1] at h; exact h.2.2.2 c2)]
          exact hk
        · refine evElse c2 ?_
          by_cases c3 : (l[p]).f0.f1 = (l[i]).f0.f1
          · refine evIf c3 (evIf (by rw [List.length_map]; omega) ?_)
            rw [Int.toNat_natCast, actL_set hg _ l[i] p hp]
            · exact hk
            · simp only [uC, Bool.and_eq_true, decide_eq_true_eq, beq_iff_eq, Bool.not_eq_true', decide_eq_false_iff_not]
              exact ⟨c1, ⟨hr1.symm, hr2.symm⟩, c3.symm, c2⟩
          · refine evElse c3 ?_
            rw [actL_keep _ l[i] (fun t ht => uC_off fun h => by rw [un t ht h.2.1] at h; exact c3 h.2.2.1.symm)]
            exact hk
    · refine evElse c1 ?_
      rw [actL_keep _ l[i] (fun t _ => uC_off fun h => c1 h.1)]
      exact hk
theorem ev_impl_active_l0 (l : List S30) (hg : LG l) : ∀ (d i : Nat) (o : List Bool), i + d = l.length → o.length = l.length → o.take i = List.replicate i true → Ev (fun k => impl_active.l0 k l o (l.length : Int) (i : Int)) (actL l) := by
  have hn := hg.len
  intro d
  induction d with
  | zero =>
    intro i o hi ho h
    rw [List.take_of_length_le (by omega)] at h
    have e : o = l.map fun t => actS t (l.take 0) true := by
      rw [h, show i = l.length from by omega]
      simp only [List.take_zero, actS, List.foldl_nil]
      rw [List.map_const']
    refine Ev.step (fun _ => rfl) (evElse (by omega) ?_)
    rw [e]
    exact ev_impl_active_l1 l hg l.length 0 (by omega)
  | succ d ih =>
    intro i o hi ho h
    refine Ev.step (fun _ => rfl) (evIf (by omega) (evIf (by omega) (evIf (by omega) ?_)))
    rw [nat1 i (by omega)]
    refine ih (i + 1) _ (by omega) (by rw [List.length_set]; exact ho) ?_
    rw [takeSucc _ i (by rw [List.length_set]; omega), Int.toNat_natCast, List.take_set_of_le (Nat.le_refl i), h, List.getElem_set_self, List.replicate_succ']
theorem ev_impl_active (l : List S30) (hg : LG l) : Ev (fun k => impl_active.f k l) (actL l) := by
  have hn := hg.len
  unfold impl_active.f
  refine evIf (by omega) (evIf (by omega) ?_)
  exact ev_impl_active_l0 l hg l.length 0 _ (by omega) (by simp) (by simp)
theorem ev_impl_ActiveOps (l : List S30) (hn : l.length ≤ 1048576) (ht : ∀ x ∈ l, x.f7.size ≤ 9223372036854775807) : Ev (fun k => impl_ActiveOps.f k l) (if lgB l = true then actL l else []) := by
  unfold impl_ActiveOps.f
  refine evBind (ev_impl_ValidLog l (by omega) ht) (evIte (fun h => evBind (ev_impl_active l (lg_of h)) (Ev.now _)) (fun _ => Ev.now _))
theorem FnExactActiveOps : ∀ (l0 : List S25), l0.length ≤ maxLen → (∀ x ∈ l0, ((Lit.int .i64 x.f0.f0).wf = true ∧ (Lit.int .i64 x.f0.f1).wf = true) ∧ (Lit.int .i64 x.f1).wf = true ∧ ((Lit.int .i64 x.f2.f0).wf = true ∧ (Lit.int .i64 x.f2.f1).wf = true) ∧ ((Lit.int .i64 x.f3.f0).wf = true ∧ (Lit.int .i64 x.f3.f1).wf = true) ∧ ((Lit.int .i64 x.f4.f0).wf = true ∧ (Lit.int .i64 x.f4.f1).wf = true) ∧ (Lit.int .i64 x.f5).wf = true ∧ True ∧ x.f7.size ≤ maxLen) → ∃ k, laws_FnExactActiveOps.f k l0 = some true := by
  intro l hl hq
  have hn : l.length ≤ 9223372036854775807 := by simp only [maxLen] at hl; omega
  have ht : ∀ x ∈ l, x.f7.size ≤ 9223372036854775807 := fun x hx => by have h := (hq x hx).2.2.2.2.2.2.2; simp only [maxLen] at h; omega
  apply Ev.rounds
  unfold laws_FnExactActiveOps.f
  obtain ⟨r, er, hr⟩ := ev_laws_szOpS l hn ht 1048576 (by omega) (by omega)
  refine evBind er ?_
  by_cases h0 : r < 0
  · exact evIf h0 (Ev.now _)
  obtain ⟨_, h1, h2⟩ := hr (by omega)
  obtain ⟨ln, lt⟩ := cv_fact l h1 ht
  have eT := ev_laws_toOpS l (by omega)
  have hM := ev_impl_ActiveOps (l.map cvOp) ln lt
  have hm : (if lgB (l.map cvOp) = true then actL (l.map cvOp) else ([] : List Bool)).length ≤ 2000000 := by
    split
    · simp only [actL, List.length_map] at ln ⊢; omega
    · simp
  refine evElse h0 (evBind eT (evBind (ev_spec_ActiveOps _ ln lt) (evBind eT (evBind hM ?_))))
  generalize (if lgB (l.map cvOp) = true then actL (l.map cvOp) else ([] : List Bool)) = m at hm hM ⊢
  obtain ⟨mm, em, _, _⟩ := ev_laws_markOpS (l.map cvOp) 1 (by omega) (by omega) (by omega)
  refine evBind (ev_laws_eqBoolS m hm) (evIf (by rfl) (evBind eT (evBind (ev_laws_eqOpS _ (by omega)) (evIf rfl (evBind em (evElse (by simp only; omega) (evBind (ev_laws_eqBoolS m hm) ?_)))))))
  refine evSucc ?_
  simp only [laws_FnExactActiveOps.j0, Bool.not_true, Bool.false_eq_true, if_false]
  refine (evBind (ev_laws_markBoolS m 1 hm (by omega) (by omega)) (evBind (ev_laws_heldBoolS m.length 1 hm (by omega) (by omega)) (evElse (by first | omega | (simp only; omega) | (simp; omega)) (evIf (by first | rfl | simp only | simp) ?_))))
  refine evBind eT (evBind hM (evBind (ev_laws_eqBoolS m hm) (evIf (by rfl) ?_)))
  exact evBind (ev_laws_heldBoolS m.length 1 hm (by omega) (by omega)) (evElse (by first | omega | (simp only; omega) | (simp; omega)) (evIf (by first | rfl | simp only | simp) (Ev.now _)))

end Go.Proofs.Ytomigiindmojkaa.Pure

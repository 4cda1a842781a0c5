/- The plain side of the statement FnExactLogInsert: the printed functions answer true at every input. Conditions: none beyond the given statement's own. -/
import Derived.Test.YtomigiindmojkaaQJx22
import Derived.Test.YtomigiindmojkaaBase
namespace Go.Proofs.Ytomigiindmojkaa.Pure
open Go.RowKit Go.Proofs.Ytomigiindmojkaa.QJ Go.Proofs.YtomigiindmojkaaW.PrintWords Go.Proofs.YtomigiindmojkaaW.PrintLast Go.Proofs.Ytomigiindmojkaa.Base
set_option linter.unusedVariables false
set_option linter.unusedSimpArgs false

theorem eq_spec_validOp (i0 i1 kd t0 t1 a0 a1 n0 n1 v : Int) (en : Bool) (tx : ByteArray) (hn : tx.size ≤ 9223372036854775807) : spec_validOp.f i0 i1 kd t0 t1 a0 a1 n0 n1 v en tx = some (vopB i0 i1 kd t0 t1 a0 a1 n0 n1 v en tx) := if_pos hn
theorem eq_impl_ValidOp (i0 i1 kd t0 t1 a0 a1 n0 n1 v : Int) (en : Bool) (tx : ByteArray) (hn : tx.size ≤ 9223372036854775807) : impl_ValidOp.f i0 i1 kd t0 t1 a0 a1 n0 n1 v en tx = some (vopB i0 i1 kd t0 t1 a0 a1 n0 n1 v en tx) := if_pos hn
theorem eq_laws_toOp (i0 i1 kd t0 t1 a0 a1 n0 n1 v : Int) (en : Bool) (tx : ByteArray) : laws_toOp.f i0 i1 kd t0 t1 a0 a1 n0 n1 v en tx = some (i0, i1, kd, t0, t1, a0, a1, n0, n1, v, en, tx) := rfl
theorem eq_laws_szOp (i0 i1 kd t0 t1 a0 a1 n0 n1 v : Int) (en : Bool) (tx : ByteArray) (b : Int) : laws_szOp.f i0 i1 kd t0 t1 a0 a1 n0 n1 v en tx b = some (if wrap64 (b - (tx.size : Int)) < 0 then -1 else wrap64 (b - (tx.size : Int))) := by
  unfold laws_szOp.f
  split <;> rfl
theorem subW {b n : Int} (h0 : 0 ≤ b) (h1 : b ≤ 4611686018427387904) (h2 : 0 ≤ n) (h3 : n ≤ 9223372036854775807) : wrap64 (b - n) = b - n := wrapId (by omega) (by omega)
theorem nat1 (i : Nat) (h : i < 4611686018427387904) : wrap64 ((i : Int) + 1) = ((i + 1 : Nat) : Int) := wrapSucc i h
theorem rd_lop (l : List S25) (i : Nat) (h : i < l.length) : rd_T25 l (i : Int) = l[i] := by simp [rd_T25, h]
theorem ev_laws_szOpS_l (l : List S25) (hn : l.length ≤ 4611686018427387900) (ht : ∀ x ∈ l, x.f7.size ≤ 9223372036854775807) : ∀ (d i : Nat) (b : Int), i + d = l.length → 0 ≤ b → b ≤ 1048576 → ∃ r, Ev (fun k => laws_szOpS.l0 k l b (i : Int)) r ∧ (0 ≤ r → r ≤ b ∧ ∀ x ∈ l.drop i, (x.f7.size : Int) ≤ b) := by
  intro d
  induction d with
  | zero =>
    intro i b hi h0 h1
    refine ⟨b, Ev.step (fun _ => rfl) (evElse (by omega) (Ev.now _)), fun _ => ⟨Int.le_refl _, ?_⟩⟩
    rw [List.drop_of_length_le (by omega)]
    exact fun x hx => absurd hx (by simp)
  | succ d ih =>
    intro i b hi h0 h1
    have hl : i < l.length := by omega
    have hs := ht (l[i]) (List.getElem_mem hl)
    by_cases hb : b - ((l[i]).f7.size : Int) < 0
    · refine ⟨-1, Ev.step (fun _ => rfl) (evIf (by omega) (evIf (by omega) (evPut (a := -1) ?_ (evIf (by omega) (Ev.now _))))), fun h => absurd h (by omega)⟩
      rw [rd_lop l i hl, eq_laws_szOp, subW h0 (by omega) (by omega) (by omega), if_pos hb]
    · obtain ⟨r, e, k⟩ := ih (i + 1) (b - ((l[i]).f7.size : Int)) (by omega) (by omega) (by omega)
      refine ⟨r, Ev.step (fun _ => rfl) (evIf (by omega) (evIf (by omega) (evPut (a := b - ((l[i]).f7.size : Int)) ?_ (evElse hb ?_)))), fun h => ?_⟩
      · rw [rd_lop l i hl, eq_laws_szOp, subW h0 (by omega) (by omega) (by omega), if_neg hb]
      · rw [nat1 i (by omega)]; exact e
      · obtain ⟨k1, k2⟩ := k h
        refine ⟨by omega, fun x hx => ?_⟩
        rw [dropCons l i hl] at hx
        rcases List.mem_cons.mp hx with rfl | hx
        · omega
        · have := k2 x hx; omega
theorem ev_laws_szOpS (l : List S25) (hn : l.length ≤ 9223372036854775807) (ht : ∀ x ∈ l, x.f7.size ≤ 9223372036854775807) (b : Int) (h0 : 0 ≤ b) (h1 : b ≤ 1048576) : ∃ r, Ev (fun k => laws_szOpS.f k l b) r ∧ (0 ≤ r → r ≤ b ∧ (l.length : Int) ≤ b ∧ ∀ x ∈ l, (x.f7.size : Int) ≤ b) := by
  unfold laws_szOpS.f
  rw [subW h0 (by omega) (by omega) (by omega)]
  by_cases h : b - (l.length : Int) < 0
  · exact ⟨-1, evIf h (Ev.now _), fun h => absurd h (by omega)⟩
  · obtain ⟨r, e, k⟩ := ev_laws_szOpS_l l (by omega) ht l.length 0 (b - (l.length : Int)) (by omega) (by omega) (by omega)
    refine ⟨r, evElse h e, fun h => ?_⟩
    obtain ⟨k1, k2⟩ := k h
    exact ⟨by omega, by omega, fun x hx => by have := k2 x hx; omega⟩
/-- The conversion of an operation. -/
def cvOp (x : S25) : S30 := ⟨⟨x.f0.f0, x.f0.f1⟩, x.f1, ⟨x.f2.f0, x.f2.f1⟩, ⟨x.f3.f0, x.f3.f1⟩, ⟨x.f4.f0, x.f4.f1⟩, x.f5, x.f6, x.f7⟩
theorem ev_laws_toOpS_l (l : List S25) (hn : l.length ≤ 2706490160679) : ∀ (d i : Nat) (m : List S30), i + d = l.length → m.length = l.length → m.take i = (l.take i).map cvOp → Ev (fun k => laws_toOpS.l0 k l m (i : Int)) (l.map cvOp) := by
  intro d
  induction d with
  | zero =>
    intro i m hi hm ht
    refine Ev.step (fun _ => rfl) (evElse (by omega) (evSome ?_))
    rw [List.take_of_length_le (by omega), List.take_of_length_le (by omega)] at ht
    exact ht
  | succ d ih =>
    intro i m hi hm ht
    have hl : i < l.length := by omega
    refine Ev.step (fun _ => rfl) (evIf (by omega) (evIf (by omega) (evPut (eq_laws_toOp _ _ _ _ _ _ _ _ _ _ _ _) (evIf (by omega) ?_))))
    rw [nat1 i (by omega), rd_lop l i hl]
    refine ih (i + 1) _ (by omega) (by rw [List.length_set]; exact hm) ?_
    rw [takeSucc _ i (by rw [List.length_set]; omega), takeSucc l i hl, List.map_append, List.map_singleton, ← ht]
    congr 1
    · rw [Int.toNat_natCast, List.take_set_of_le (Nat.le_refl i)]
    · simp [cvOp]
theorem ev_laws_toOpS (l : List S25) (hn : l.length ≤ 2706490160679) : Ev (fun k => laws_toOpS.f k l) (l.map cvOp) := by
  unfold laws_toOpS.f
  refine evIf (by omega) (evIf (by omega) ?_)
  exact ev_laws_toOpS_l l hn l.length 0 _ (by omega) (by simp) (by simp)
theorem eq_laws_eqOp (a0 a1 a2 a3 a4 a5 a6 a7 a8 a9 : Int) (a10 : Bool) (a11 : ByteArray) : laws_eqOp.f a0 a1 a2 a3 a4 a5 a6 a7 a8 a9 a10 a11 a0 a1 a2 a3 a4 a5 a6 a7 a8 a9 a10 a11 = some true := by
  unfold laws_eqOp.f
  simp [opB, stB]
theorem ev_laws_eqOpS_l (l : List S30) (hn : l.length ≤ 4611686018427387900) : ∀ (d i : Nat), i + d = l.length → Ev (fun k => laws_eqOpS.l0 k l l (i : Int)) true := by
  intro d
  induction d with
  | zero =>
    intro i hi
    exact Ev.step (fun _ => rfl) (evElse (by omega) (Ev.now _))
  | succ d ih =>
    intro i hi
    refine Ev.step (fun _ => rfl) (evIf (by omega) (evIf (by omega) (evIf (by omega) (evPut (eq_laws_eqOp _ _ _ _ _ _ _ _ _ _ _ _) (evIf rfl ?_)))))
    rw [nat1 i (by omega)]
    exact ih (i + 1) (by omega)
theorem ev_laws_eqOpS (l : List S30) (hn : l.length ≤ 4611686018427387900) : Ev (fun k => laws_eqOpS.f k l l) true := by
  unfold laws_eqOpS.f
  exact evIf rfl (ev_laws_eqOpS_l l hn l.length 0 (by omega))
theorem eq_spec_stampLessL (a b c d : Int) : spec_stampLess.f a b c d = some (slt a b c d) := mq_spec_stampLess a b c d
theorem rd_iop (l : List S30) (i : Nat) (h : i < l.length) : rd_T30 l (i : Int) = l[i] := by simp [rd_T30, h]
def opvB (x : S30) : Bool := vopB x.f0.f0 x.f0.f1 x.f1 x.f2.f0 x.f2.f1 x.f3.f0 x.f3.f1 x.f4.f0 x.f4.f1 x.f5 x.f6 x.f7
/-- Each operation's ID is below the next one's. -/
def chB : List S30 → Bool
  | [] => true
  | [_] => true
  | x :: y :: r => slt x.f0.f0 x.f0.f1 y.f0.f0 y.f0.f1 && chB (y :: r)
/-- A valid log. -/
def lgB (l : List S30) : Bool := l.all opvB && (chB l && decide ((l.length : Int) ≤ 40))
theorem chB_end (l : List S30) (i : Nat) (h : l.length ≤ i) : chB (l.drop (i - 1)) = true := by
  by_cases h0 : l.length ≤ i - 1
  · rw [List.drop_of_length_le h0]; rfl
  · rw [dropCons l (i - 1) (by omega), List.drop_of_length_le (by omega)]; rfl
theorem chB_step (l : List S30) (i : Nat) (h0 : 0 < i) (h : i < l.length) : chB (l.drop (i - 1)) = (slt (l[i - 1]).f0.f0 (l[i - 1]).f0.f1 (l[i]).f0.f0 (l[i]).f0.f1 && chB (l.drop (i + 1 - 1))) := by
  have e : i - 1 + 1 = i := by omega
  rw [dropCons l (i - 1) (by omega), show i + 1 - 1 = i from by omega]
  simp only [e]
  rw [dropCons l i h]
  rfl
theorem ev_spec_validLog_l (l : List S30) (hn : l.length ≤ 4611686018427387900) (ht : ∀ x ∈ l, x.f7.size ≤ 9223372036854775807) : ∀ (d i : Nat), i + d = l.length → Ev (fun k => spec_validLog.l0 k l (i : Int)) ((l.drop i).all opvB && (chB (l.drop (i - 1)) && decide ((l.length : Int) ≤ 40))) := by
  intro d
  induction d with
  | zero =>
    intro i hi
    refine Ev.step (fun _ => rfl) (evElse (by omega) (evSome ?_))
    rw [List.drop_of_length_le (by omega), chB_end l i (by omega)]; rfl
  | succ d ih =>
    intro i hi
    have hl : i < l.length := by omega
    have hs := ht (l[i]) (List.getElem_mem hl)
    have hk := ih (i + 1) (by omega)
    refine Ev.step (fun _ => rfl) (evIf (by omega) (evIf (by omega) ?_))
    rw [rd_iop l i hl, nat1 i (by omega), dropCons l i hl, List.all_cons]
    refine evPut (a := opvB l[i]) (eq_spec_validOp _ _ _ _ _ _ _ _ _ _ _ _ hs) ?_
    cases h : opvB l[i] with
    | false => exact evElse (by simp) (evSome (by simp))
    | true =>
      refine evIf rfl ?_
      rw [Bool.true_and]
      by_cases h0 : 0 < i
      · have e : wrap64 ((i : Int) - 1) = ((i - 1 : Nat) : Int) := by rw [wrapId (by omega) (by omega)]; omega
        rw [e]
        refine evIf (by omega) (evIf (by omega) (evIf (by omega) ?_))
        rw [rd_iop l (i - 1) (by omega)]
        refine evPut (eq_spec_stampLessL _ _ _ _) ?_
        rw [chB_step l i h0 hl]
        cases h' : slt (l[i - 1]).f0.f0 (l[i - 1]).f0.f1 (l[i]).f0.f0 (l[i]).f0.f1 with
        | false => exact evElse (by simp) (evSome (by simp))
        | true => exact evIf rfl (evEq hk (by rw [Bool.true_and]))
      · obtain rfl : i = 0 := by omega
        exact evElse (by omega) (evEq hk (by rfl))
theorem ev_spec_validLog (l : List S30) (hn : l.length ≤ 4611686018427387900) (ht : ∀ x ∈ l, x.f7.size ≤ 9223372036854775807) : Ev (fun k => spec_validLog.f k l) (lgB l) := by
  unfold spec_validLog.f
  exact ev_spec_validLog_l l hn ht l.length 0 (by omega)
theorem ev_impl_ValidLog_l (l : List S30) (hn : l.length ≤ 4611686018427387900) (ht : ∀ x ∈ l, x.f7.size ≤ 9223372036854775807) : ∀ (d i : Nat), i + d = l.length → Ev (fun k => impl_ValidLog.l0 k l l (l.length : Int) (i : Int)) ((l.drop i).all opvB && (chB (l.drop (i - 1)) && decide ((l.length : Int) ≤ 40))) := by
  intro d
  induction d with
  | zero =>
    intro i hi
    refine Ev.step (fun _ => rfl) (evElse (by omega) (evSome ?_))
    rw [List.drop_of_length_le (by omega), chB_end l i (by omega)]; rfl
  | succ d ih =>
    intro i hi
    have hl : i < l.length := by omega
    have hs := ht (l[i]) (List.getElem_mem hl)
    have hk := ih (i + 1) (by omega)
    refine Ev.step (fun _ => rfl) (evIf (by omega) (evIf (by omega) (evIf (by omega) ?_)))
    rw [rd_iop l i hl, nat1 i (by omega), dropCons l i hl, List.all_cons]
    refine evPut (a := opvB l[i]) (eq_impl_ValidOp _ _ _ _ _ _ _ _ _ _ _ _ hs) ?_
    cases h : opvB l[i] with
    | false => exact evElse (by simp) (evSome (by simp))
    | true =>
      refine evIf rfl ?_
      rw [Bool.true_and]
      by_cases h0 : 0 < i
      · have e : wrap64 ((i : Int) - 1) = ((i - 1 : Nat) : Int) := by rw [wrapId (by omega) (by omega)]; omega
        rw [e]
        refine evIf (by omega) (evIf (by omega) (evIf (by omega) ?_))
        rw [rd_iop l (i - 1) (by omega)]
        refine evPut (mq_impl_StampLess _ _ _ _) ?_
        rw [chB_step l i h0 hl]
        cases h' : slt (l[i - 1]).f0.f0 (l[i - 1]).f0.f1 (l[i]).f0.f0 (l[i]).f0.f1 with
        | false => exact evElse (by simp) (evSome (by simp))
        | true => exact evIf rfl (evEq hk (by rw [Bool.true_and]))
      · obtain rfl : i = 0 := by omega
        exact evElse (by omega) (evEq hk (by rfl))
theorem ev_impl_ValidLog (l : List S30) (hn : l.length ≤ 4611686018427387900) (ht : ∀ x ∈ l, x.f7.size ≤ 9223372036854775807) : Ev (fun k => impl_ValidLog.f k l) (lgB l) := by
  unfold impl_ValidLog.f
  exact ev_impl_ValidLog_l l hn ht l.length 0 (by omega)
theorem ev_laws_markText_l : ∀ (m : Nat) (n : Int) (s : ByteArray), 0 ≤ n → n < 9223372036854775808 → n < 10 ^ m → s.size + m ≤ 1000 → ∃ r, Ev (fun k => laws_markText.l0 k n s) r := by
  intro m
  induction m with
  | zero =>
    intro n s h0 _ h1 h2
    have h1' : n < 1 := h1
    exact ⟨_, Ev.step (fun _ => rfl) (evElse (by omega) (evIf (by omega) (Ev.now _)))⟩
  | succ m ih =>
    intro n s h0 h3 h1 h2
    by_cases h : n > 0
    · have h1' : n < 10 ^ m * 10 := by rw [← Int.pow_succ]; exact h1
      have e1 : wrap64 (Int.tdiv n 10) = n / 10 := by rw [Int.tdiv_eq_ediv_of_nonneg h0, wrapId (by omega) (by omega)]
      generalize (10 : Int) ^ m = p at ih h1'
      obtain ⟨r, er⟩ := ih (n / 10) (strOfNums [wrap64 (48 + Int.tmod n 10) % 256] ++ s) (by omega) (by omega) (by omega) (by rw [ByteArray.size_append, strOfNums_size]; simp only [List.length_singleton]; omega)
      refine ⟨r, Ev.step (fun _ => rfl) (evIf h (evPut rfl (evIf (by rw [strOfNums_size]; simp only [List.length_singleton]; omega) ?_)))⟩
      rw [e1]
      exact er
    · exact ⟨_, Ev.step (fun _ => rfl) (evElse h (evIf (by omega) (Ev.now _)))⟩
theorem ev_laws_markText (n : Int) (h0 : 0 ≤ n) (h1 : n ≤ 100000000012) : ∃ r, Ev (fun k => laws_markText.f k n) r := by
  unfold laws_markText.f
  by_cases h : n ≤ 0
  · exact ⟨_, evIf h (Ev.now _)⟩
  · obtain ⟨r, er⟩ := ev_laws_markText_l 19 n ⟨#[]⟩ h0 (by omega) (by omega) (by decide)
    exact ⟨r, evElse h er⟩
/-- The elements are marked from a on. -/
def MK : Int → List S30 → Prop
  | _, [] => True
  | a, x :: r => (∃ s, Ev (fun k => laws_markText.f k (a + 11)) s ∧ x = mkS a s) ∧ MK (a + 12) r
theorem ev_markL : ∀ (l : List S30) (a : Int), 0 ≤ a → a + 12 * (l.length : Int) ≤ 100000000000 → ∃ m, Ev (fun k => markL k a l) (a + 12 * (l.length : Int), m) ∧ m.length = l.length ∧ MK a m
  | [], a, _, _ => ⟨[], Ev.congr (fun _ => by rw [markL]) (evSome (by simp)), rfl, trivial⟩
  | x :: r, a, h0, h1 => by
    rw [List.length_cons] at h1
    obtain ⟨s, es⟩ := ev_laws_markText (a + 11) (by omega) (by omega)
    obtain ⟨m, em, ml, mk⟩ := ev_markL r (a + 12) (by omega) (by omega)
    refine ⟨mkS a s :: m, Ev.congr (fun _ => by rw [markL]) (evBind es (evBind (f := fun _ q => some (q.1, mkS a s :: q.2)) em ?_)), by simp [ml], ⟨s, es, rfl⟩, mk⟩
    refine evSome ?_
    rw [List.length_cons]; simp only [Prod.mk.injEq, and_true]; omega
theorem ev_laws_markOpS (l : List S30) (a : Int) (hn : l.length ≤ 4000000) (h0 : 0 ≤ a) (h1 : a + 12 * l.length ≤ 100000000000) : ∃ m, Ev (fun k => laws_markOpS.f k l a) (a + 12 * l.length, m) ∧ m.length = l.length ∧ MK a m := by
  obtain ⟨m, em, ml, mk⟩ := ev_markL l a h0 h1
  exact ⟨m, evIf ⟨⟨h0, h1⟩, hn⟩ em, ml, mk⟩
theorem ev_heldL : ∀ (l : List S30) (a : Int), MK a l → Ev (fun k => heldL k a l) (a + 12 * (l.length : Int))
  | [], a, _ => Ev.congr (fun _ => by rw [heldL]) (evSome (by simp))
  | x :: r, a, ⟨⟨s, es, hx⟩, hm⟩ => by
    subst hx
    refine Ev.congr (fun _ => by rw [heldL]) (evBind es (evIf (show isM (mkS a s) a s from ⟨rfl, rfl, rfl, rfl, rfl, rfl, rfl, rfl, rfl, rfl, rfl, rfl⟩) (evEq (ev_heldL r (a + 12) hm) ?_)))
    rw [List.length_cons]; omega
theorem ev_laws_heldOpS (l : List S30) (a : Int) (hn : l.length ≤ 4000000) (h0 : 0 ≤ a) (h1 : a + 12 * l.length ≤ 100000000000) (hm : MK a l) : Ev (fun k => laws_heldOpS.f k l a) (a + 12 * l.length) :=
  evIf ⟨⟨h0, h1⟩, hn⟩ (ev_heldL l a hm)
theorem sltIrr (a b : Int) : slt a b a b = false := by simp [slt]
theorem sltTrans {a b c d e f : Int} (h : slt a b c d = true) (k : slt c d e f = true) : slt a b e f = true := by
  simp only [slt, decide_eq_true_eq] at h k ⊢; omega
/-- x's ID is below y's. -/
def idlt (x y : S30) : Prop := slt x.f0.f0 x.f0.f1 y.f0.f0 y.f0.f1 = true
theorem chB_pair : ∀ l : List S30, chB l = true → l.Pairwise idlt
  | [], _ => List.Pairwise.nil
  | [x], _ => List.pairwise_singleton _ _
  | x :: y :: r, h => by
    simp only [chB, Bool.and_eq_true] at h
    have ih := chB_pair (y :: r) h.2
    refine List.pairwise_cons.mpr ⟨fun z hz => ?_, ih⟩
    rcases List.mem_cons.mp hz with rfl | hz
    · exact h.1
    · exact sltTrans h.1 ((List.pairwise_cons.mp ih).1 z hz)
/-- What a valid log has. -/
structure LG (l : List S30) : Prop where
  len : l.length ≤ 40
  val : ∀ x ∈ l, opvB x = true
  pair : l.Pairwise idlt
theorem lg_of {l : List S30} (h : lgB l = true) : LG l := by
  simp only [lgB, Bool.and_eq_true, List.all_eq_true, decide_eq_true_eq] at h
  exact ⟨by omega, h.1, chB_pair l h.2.1⟩
/-- The law's own arguments, converted. -/
theorem cv_fact (l : List S25) (hl : (l.length : Int) ≤ 1048576) (ht : ∀ x ∈ l, x.f7.size ≤ 9223372036854775807) : (l.map cvOp).length ≤ 1048576 ∧ (∀ x ∈ l.map cvOp, x.f7.size ≤ 9223372036854775807) := by
  refine ⟨by rw [List.length_map]; omega, fun x hx => ?_⟩
  obtain ⟨y, hy, rfl⟩ := List.mem_map.mp hx
  exact ht y hy
theorem ev_impl_opAt_l (l : List S30) (hn : l.length ≤ 1048576) (q a : Int) : ∀ (d i : Nat), i + d = l.length → (∀ x ∈ l.take i, ¬ (x.f0.f0 = q ∧ x.f0.f1 = a)) → ∃ r, Ev (fun k => impl_opAt.l0 k l (l.length : Int) (i : Int) q a) r ∧ ((r = -1 ∧ ∀ x ∈ l, ¬ (x.f0.f0 = q ∧ x.f0.f1 = a)) ∨ ∃ (p : Nat) (hp : p < l.length), r = (p : Int) ∧ (l[p]).f0.f0 = q ∧ (l[p]).f0.f1 = a) := by
  intro d
  induction d with
  | zero =>
    intro i hi h
    rw [List.take_of_length_le (by omega)] at h
    exact ⟨-1, Ev.step (fun _ => rfl) (evElse (by omega) (Ev.now _)), .inl ⟨rfl, h⟩⟩
  | succ d ih =>
    intro i hi h
    have hl : i < l.length := by omega
    by_cases c : (l[i]).f0.f0 = q ∧ (l[i]).f0.f1 = a
    · refine ⟨(i : Int), Ev.step (fun _ => rfl) (evIf (by omega) (evIf (by omega) (evIf (by omega) (evIf ?_ (Ev.now _))))), .inr ⟨i, hl, rfl, c⟩⟩
      rw [rd_iop l i hl]; simp [c]
    · obtain ⟨r, er, hr⟩ := ih (i + 1) (by omega) (by
        intro x hx
        rw [takeSucc l i hl] at hx
        rcases List.mem_append.mp hx with hx | hx
        · exact h x hx
        · rw [List.mem_singleton.mp hx]; exact c)
      refine ⟨r, Ev.step (fun _ => rfl) (evIf (by omega) (evIf (by omega) (evIf (by omega) (evElse ?_ ?_)))), hr⟩
      · rw [rd_iop l i hl]; simp only [Bool.and_eq_true, beq_iff_eq]; exact c
      · rw [nat1 i (by omega)]; exact er
theorem ev_impl_opAt (l : List S30) (hn : l.length ≤ 1048576) (q a : Int) : ∃ r, Ev (fun k => impl_opAt.f k l q a) r ∧ ((r = -1 ∧ ∀ x ∈ l, ¬ (x.f0.f0 = q ∧ x.f0.f1 = a)) ∨ ∃ (p : Nat) (hp : p < l.length), r = (p : Int) ∧ (l[p]).f0.f0 = q ∧ (l[p]).f0.f1 = a) := by
  unfold impl_opAt.f
  exact ev_impl_opAt_l l hn q a l.length 0 (by omega) (by simp)
/-- The list with o in its place; an element with o's ID stays. -/
def insL : List S30 → S30 → List S30
  | [], o => [o]
  | x :: r, o => if slt x.f0.f0 x.f0.f1 o.f0.f0 o.f0.f1 = true then x :: insL r o else if x.f0.f0 = o.f0.f0 ∧ x.f0.f1 = o.f0.f1 then x :: r else o :: x :: r
theorem insL_cons (x : S30) (r : List S30) (o : S30) : insL (x :: r) o = if slt x.f0.f0 x.f0.f1 o.f0.f0 o.f0.f1 = true then x :: insL r o else if x.f0.f0 = o.f0.f0 ∧ x.f0.f1 = o.f0.f1 then x :: r else o :: x :: r := rfl
theorem insL_len (l : List S30) (o : S30) : (insL l o).length ≤ l.length + 1 := by
  induction l with
  | nil => exact Nat.le_refl _
  | cons x r ih =>
    rw [insL_cons]
    split
    · simp only [List.length_cons]; omega
    · split <;> simp only [List.length_cons] <;> omega
theorem slt_tri {a b c d : Int} (h : ¬ slt a b c d = true) (k : ¬ (a = c ∧ b = d)) : slt c d a b = true := by
  simp only [slt, decide_eq_true_eq] at h ⊢; omega
theorem insL_same (l : List S30) (o x : S30) (h : l.Pairwise idlt) (hx : x ∈ l) (e : x.f0.f0 = o.f0.f0 ∧ x.f0.f1 = o.f0.f1) : insL l o = l := by
  induction l with
  | nil => cases hx
  | cons y r ih =>
    obtain ⟨h1, h2⟩ := List.pairwise_cons.mp h
    rw [insL_cons]
    rcases List.mem_cons.mp hx with rfl | hx
    · rw [if_neg (by rw [e.1, e.2, sltIrr]; simp), if_pos e]
    · have := h1 x hx
      rw [if_pos (by rw [← e.1, ← e.2]; exact this), ih h2 hx]
theorem insL_step (l : List S30) (i : Nat) (h : i < l.length) (o : S30) : insL (l.drop i) o = if slt (l[i]).f0.f0 (l[i]).f0.f1 o.f0.f0 o.f0.f1 = true then l[i] :: insL (l.drop (i + 1)) o else if (l[i]).f0.f0 = o.f0.f0 ∧ (l[i]).f0.f1 = o.f0.f1 then l.drop i else o :: l.drop i := by
  rw [dropCons l i h]; rfl
theorem ev_spec_insertOp_l (l : List S30) (hn : l.length ≤ 1500000) (o : S30) : ∀ (d i : Nat), i + d = l.length → Ev (fun k => spec_insertOp.l0 k l (i : Int) o.f0.f0 o.f0.f1 o.f1 o.f2.f0 o.f2.f1 o.f3.f0 o.f3.f1 o.f4.f0 o.f4.f1 o.f5 o.f6 o.f7) (l.take i ++ insL (l.drop i) o) := by
  intro d
  induction d with
  | zero =>
    intro i hi
    refine Ev.step (fun _ => rfl) (evElse (by omega) ?_)
    have e1 : l.drop i = [] := List.drop_of_length_le (by omega)
    refine evPut rfl (evIf (by omega) (evIf (by omega) (evPut rfl (evIf (by simp only [Int.toNat_natCast, List.length_nil, List.length_take]; omega) (evPut rfl (evIf (by simp only [Int.toNat_natCast, List.nil_append, List.length_take]; omega) (evPut rfl (evPut rfl (evIf (by simp only [Int.toNat_natCast, List.nil_append, List.length_append, List.length_take, List.length_drop, List.length_cons, List.length_nil]; omega) (evSome ?_))))))))))
    simp only [Int.toNat_natCast, e1, insL, List.nil_append, List.append_nil]
  | succ d ih =>
    intro i hi
    have hl : i < l.length := by omega
    rw [insL_step l i hl]
    refine Ev.step (fun _ => rfl) (evIf (by omega) (evIf (by omega) ?_))
    rw [rd_iop l i hl]
    refine evPut (mq_spec_stampLess _ _ _ _) ?_
    by_cases h1 : slt (l[i]).f0.f0 (l[i]).f0.f1 o.f0.f0 o.f0.f1 = true
    · rw [if_pos h1]
      refine evIf h1 ?_
      rw [nat1 i (by omega)]
      refine evEq (ih (i + 1) (by omega)) ?_
      rw [takeSucc l i hl, List.append_assoc, List.singleton_append]
    · rw [if_neg h1]
      refine evElse h1 ?_
      by_cases h2 : (l[i]).f0.f0 = o.f0.f0 ∧ (l[i]).f0.f1 = o.f0.f1
      · rw [if_pos h2]
        refine evIf (by simp [h2]) (evSome ?_)
        rw [List.take_append_drop]
      · rw [if_neg h2]
        refine evElse (by simp only [Bool.and_eq_true, beq_iff_eq]; exact h2) ?_
        refine evPut rfl (evIf (by omega) (evPut rfl (evIf (by simp only [Int.toNat_natCast, List.length_nil, List.length_take]; omega) (evPut rfl (evIf (by simp only [Int.toNat_natCast, List.nil_append, List.length_take]; omega) (evPut rfl (evPut rfl (evIf (by simp only [Int.toNat_natCast, List.nil_append, List.length_append, List.length_take, List.length_drop, List.length_cons, List.length_nil]; omega) (evSome ?_)))))))))
        simp
theorem ev_spec_insertOp (l : List S30) (hn : l.length ≤ 1500000) (o : S30) : Ev (fun k => spec_insertOp.f k l o.f0.f0 o.f0.f1 o.f1 o.f2.f0 o.f2.f1 o.f3.f0 o.f3.f1 o.f4.f0 o.f4.f1 o.f5 o.f6 o.f7) (insL l o) := by
  unfold spec_insertOp.f
  exact ev_spec_insertOp_l l hn o l.length 0 (by omega)
theorem ev_impl_inserted_p (l : List S30) (hn : l.length ≤ 1500000) (o : S30) : ∀ (d i : Nat) (u : List S30), i + d = l.length → u.length ≤ 2000001 → u.length + d ≤ 2000001 → Ev (fun k => impl_inserted.l0 k u true l (l.length : Int) (i : Int) o.f0.f0 o.f0.f1 o.f1 o.f2.f0 o.f2.f1 o.f3.f0 o.f3.f1 o.f4.f0 o.f4.f1 o.f5 o.f6 o.f7) (u ++ l.drop i) := by
  intro d
  induction d with
  | zero =>
    intro i u hi hu _
    refine Ev.step (fun _ => rfl) (evElse (by omega) (evIf rfl (evSome ?_)))
    rw [List.drop_of_length_le (by omega), List.append_nil]
  | succ d ih =>
    intro i u hi hu hv
    have hl : i < l.length := by omega
    have hk := ih (i + 1) (u ++ [l[i]]) (by omega) (by simp; omega) (by simp; omega)
    refine Ev.step (fun _ => rfl) (evIf (by omega) (evIf (by omega) (evIf (by omega) ?_)))
    rw [rd_iop l i hl, nat1 i (by omega), dropCons l i hl]
    have hk2 := evEq hk (show (u ++ [l[i]]) ++ l.drop (i + 1) = u ++ l[i] :: l.drop (i + 1) by simp)
    by_cases h2 : ((l[i]).f0.f0 == o.f0.f0 && ((l[i]).f0.f1 == o.f0.f1)) = true
    · exact evIf h2 (evIf (by omega) hk2)
    · exact evElse h2 (evIf rfl (evIf (by omega) hk2))
theorem ev_impl_inserted_l (l : List S30) (hn : l.length ≤ 1500000) (o : S30) : ∀ (d i : Nat) (u : List S30), i + d = l.length → u.length + d ≤ 1500000 → Ev (fun k => impl_inserted.l0 k u false l (l.length : Int) (i : Int) o.f0.f0 o.f0.f1 o.f1 o.f2.f0 o.f2.f1 o.f3.f0 o.f3.f1 o.f4.f0 o.f4.f1 o.f5 o.f6 o.f7) (u ++ insL (l.drop i) o) := by
  intro d
  induction d with
  | zero =>
    intro i u hi hu
    refine Ev.step (fun _ => rfl) (evElse (by omega) (evElse (by simp) (evIf (by omega) (evSome ?_))))
    rw [List.drop_of_length_le (by omega)]; rfl
  | succ d ih =>
    intro i u hi hu
    have hl : i < l.length := by omega
    have hk := ih (i + 1) (u ++ [l[i]]) (by omega) (by simp; omega)
    refine Ev.step (fun _ => rfl) (evIf (by omega) (evIf (by omega) (evIf (by omega) ?_)))
    rw [rd_iop l i hl, nat1 i (by omega), insL_step l i hl]
    by_cases h2 : (l[i]).f0.f0 = o.f0.f0 ∧ (l[i]).f0.f1 = o.f0.f1
    · have hp := ev_impl_inserted_p l hn o d (i + 1) (u ++ [l[i]]) (by omega) (by simp; omega) (by simp; omega)
      rw [if_neg (by rw [h2.1, h2.2, sltIrr]; simp), if_pos h2, dropCons l i hl]
      exact evIf (by simp [h2]) (evIf (by omega) (evEq hp (by simp)))
    · refine evElse (by simp only [Bool.and_eq_true, beq_iff_eq]; exact h2) (evElse (by simp) (evPut (mq_impl_StampLess _ _ _ _) ?_))
      by_cases h1 : slt (l[i]).f0.f0 (l[i]).f0.f1 o.f0.f0 o.f0.f1 = true
      · have h3 : ¬ slt o.f0.f0 o.f0.f1 (l[i]).f0.f0 (l[i]).f0.f1 = true := fun h => by
          have := sltTrans h1 h
          rw [sltIrr] at this; cases this
        rw [if_pos h1]
        exact evElse h3 (evIf (by omega) (evEq hk (by simp)))
      · have h3 := slt_tri h1 h2
        have hp := ev_impl_inserted_p l hn o d (i + 1) (u ++ [o] ++ [l[i]]) (by omega) (by simp; omega) (by simp; omega)
        rw [if_neg h1, if_neg h2, dropCons l i hl]
        exact evIf h3 (evIf (by omega) (evPut rfl (evIf (by simp; omega) (evEq hp (by simp)))))
theorem ev_impl_inserted (l : List S30) (hn : l.length ≤ 1400000) (o : S30) : Ev (fun k => impl_inserted.f k l o.f0.f0 o.f0.f1 o.f1 o.f2.f0 o.f2.f1 o.f3.f0 o.f3.f1 o.f4.f0 o.f4.f1 o.f5 o.f6 o.f7) (insL l o) := by
  unfold impl_inserted.f
  have e : wrap64 ((l.length : Int) + 1) = (l.length : Int) + 1 := wrapId (by omega) (by omega)
  rw [e]
  refine evIf (by omega) (evIf (by omega) ?_)
  exact evEq (ev_impl_inserted_l l (by omega) o l.length 0 [] (by omega) (by simp; omega)) (by simp)
theorem insL_new (o : S30) (l : List S30) (h : ∀ x ∈ l, ¬ (x.f0.f0 = o.f0.f0 ∧ x.f0.f1 = o.f0.f1)) : (insL l o).length = l.length + 1 := by
  induction l with
  | nil => rfl
  | cons x r ih =>
    have := ih (fun y hy => h y (List.mem_cons_of_mem _ hy))
    rw [insL_cons]
    split
    · simp only [List.length_cons]; omega
    · rw [if_neg (h x List.mem_cons_self)]; simp only [List.length_cons]
/-- What an insertion answers. -/
def insR (l : List S30) (o : S30) : List S30 × Bool := if lgB l = true then (if opvB o = true ∧ ((insL l o).length : Int) ≤ 40 then (insL l o, true) else (l, false)) else ([], false)
theorem ev_spec_LogInsert (l : List S30) (hn : l.length ≤ 1048576) (ht : ∀ x ∈ l, x.f7.size ≤ 9223372036854775807) (o : S30) (ho : o.f7.size ≤ 9223372036854775807) : Ev (fun k => spec_LogInsert.f k l o.f0.f0 o.f0.f1 o.f1 o.f2.f0 o.f2.f1 o.f3.f0 o.f3.f1 o.f4.f0 o.f4.f1 o.f5 o.f6 o.f7) (insR l o) := by
  unfold spec_LogInsert.f insR
  have hl := insL_len l o
  refine evBind (ev_spec_validLog l (by omega) ht) ?_
  cases hg : lgB l with
  | false => exact evElse (by simp) (evSome (by simp))
  | true =>
    refine evIf rfl (evBind (ev_spec_insertOp l (by omega) o) (evPut (a := opvB o) (eq_spec_validOp _ _ _ _ _ _ _ _ _ _ _ _ ho) ?_))
    cases hv : opvB o with
    | false => exact evElse (by simp) (evPut rfl (evIf (by simp only [List.length_nil]; omega) (evSome (by simp))))
    | true =>
      refine evIf rfl ?_
      by_cases h4 : ((insL l o).length : Int) > 40
      · refine evIf h4 (evPut rfl (evIf (by simp only [List.length_nil]; omega) (evSome ?_)))
        rw [if_pos rfl, if_neg (by omega)]; simp
      · refine evElse h4 (evPut rfl (evIf (by simp only [List.length_nil]; omega) (evSome ?_)))
        rw [if_pos rfl, if_pos ⟨rfl, by omega⟩]; simp
theorem ev_impl_LogInsert (l : List S30) (hn : l.length ≤ 1048576) (ht : ∀ x ∈ l, x.f7.size ≤ 9223372036854775807) (o : S30) (ho : o.f7.size ≤ 9223372036854775807) : Ev (fun k => impl_LogInsert.f k l o.f0.f0 o.f0.f1 o.f1 o.f2.f0 o.f2.f1 o.f3.f0 o.f3.f1 o.f4.f0 o.f4.f1 o.f5 o.f6 o.f7) (insR l o) := by
  unfold impl_LogInsert.f insR
  refine evBind (ev_impl_ValidLog l (by omega) ht) ?_
  cases hg : lgB l with
  | false => exact evElse (by simp) (evSome (by simp))
  | true =>
    have hG := lg_of hg
    have h40 := hG.len
    refine evIf rfl (evPut rfl (evIf (by simp only [List.length_nil]; omega) (evPut rfl (evPut (a := opvB o) (eq_impl_ValidOp _ _ _ _ _ _ _ _ _ _ _ _ ho) ?_))))
    cases hv : opvB o with
    | false => exact evElse (by simp) (evSome (by simp))
    | true =>
      refine evIf rfl ?_
      obtain ⟨r, er, hr⟩ := ev_impl_opAt l (by omega) o.f0.f0 o.f0.f1
      refine evBind er ?_
      rcases hr with ⟨rfl, hr⟩ | ⟨p, hp, rfl, h1, h2⟩
      · have hL := insL_new o l hr
        refine evElse (by omega) ?_
        by_cases h4 : (l.length : Int) ≥ 40
        · refine evIf h4 (evSome ?_)
          rw [if_pos rfl, if_neg (by omega)]; simp
        · refine evElse h4 (evBind (ev_impl_inserted l (by omega) o) (evSome ?_))
          rw [if_pos rfl, if_pos ⟨rfl, by omega⟩]
      · have hs := insL_same l o l[p] hG.pair (List.getElem_mem hp) ⟨h1, h2⟩
        refine evIf (by omega) (evSome ?_)
        rw [hs, if_pos rfl, if_pos ⟨rfl, by omega⟩]; simp
theorem FnExactLogInsert : ∀ (l0 : List S25) (x1_f0_f0 : Int) (x1_f0_f1 : Int) (x1_f1 : Int) (x1_f2_f0 : Int) (x1_f2_f1 : Int) (x1_f3_f0 : Int) (x1_f3_f1 : Int) (x1_f4_f0 : Int) (x1_f4_f1 : Int) (x1_f5 : Int) (x1_f6 : Bool) (x1_f7 : ByteArray), l0.length ≤ maxLen → (∀ x ∈ l0, ((Lit.int .i64 x.f0.f0).wf = true ∧ (Lit.int .i64 x.f0.f1).wf = true) ∧ (Lit.int .i64 x.f1).wf = true ∧ ((Lit.int .i64 x.f2.f0).wf = true ∧ (Lit.int .i64 x.f2.f1).wf = true) ∧ ((Lit.int .i64 x.f3.f0).wf = true ∧ (Lit.int .i64 x.f3.f1).wf = true) ∧ ((Lit.int .i64 x.f4.f0).wf = true ∧ (Lit.int .i64 x.f4.f1).wf = true) ∧ (Lit.int .i64 x.f5).wf = true ∧ True ∧ x.f7.size ≤ maxLen) → (((Lit.int .i64 x1_f0_f0).wf = true ∧ (Lit.int .i64 x1_f0_f1).wf = true) ∧ (Lit.int .i64 x1_f1).wf = true ∧ ((Lit.int .i64 x1_f2_f0).wf = true ∧ (Lit.int .i64 x1_f2_f1).wf = true) ∧ ((Lit.int .i64 x1_f3_f0).wf = true ∧ (Lit.int .i64 x1_f3_f1).wf = true) ∧ ((Lit.int .i64 x1_f4_f0).wf = true ∧ (Lit.int .i64 x1_f4_f1).wf = true) ∧ (Lit.int .i64 x1_f5).wf = true ∧ True ∧ x1_f7.size ≤ maxLen) → ∃ k, laws_FnExactLogInsert.f k l0 x1_f0_f0 x1_f0_f1 x1_f1 x1_f2_f0 x1_f2_f1 x1_f3_f0 x1_f3_f1 x1_f4_f0 x1_f4_f1 x1_f5 x1_f6 x1_f7 = some true := by
  intro l i0 i1 kd t0 t1 a0 a1 n0 n1 v en tx hl hq ho
  have hn : l.length ≤ 9223372036854775807 := by simp only [maxLen] at hl; omega
  have ht : ∀ x ∈ l, x.f7.size ≤ 9223372036854775807 := fun x hx => by have h := (hq x hx).2.2.2.2.2.2.2; simp only [maxLen] at h; omega
  have hx : tx.size ≤ 9223372036854775807 := by have h := ho.2.2.2.2.2.2.2; simp only [maxLen] at h; omega
  apply Ev.rounds
  unfold laws_FnExactLogInsert.f
  obtain ⟨r, er, hr⟩ := ev_laws_szOpS l hn ht 1048576 (by omega) (by omega)
  refine evBind er ?_
  by_cases h0 : r < 0
  · exact evIf h0 (Ev.now _)
  obtain ⟨_, h1, _⟩ := hr (by omega)
  refine evElse h0 (evPut (eq_laws_szOp _ _ _ _ _ _ _ _ _ _ _ _ _) ?_)
  by_cases h02 : (if wrap64 (r - (tx.size : Int)) < 0 then -1 else wrap64 (r - (tx.size : Int))) < 0
  · exact evIf h02 (Ev.now _)
  refine evElse h02 ?_
  obtain ⟨ln, lt⟩ := cv_fact l h1 ht
  have eT := ev_laws_toOpS l (by omega)
  have eO := eq_laws_toOp i0 i1 kd t0 t1 a0 a1 n0 n1 v en tx
  have hS := ev_spec_LogInsert (l.map cvOp) ln lt ⟨⟨i0, i1⟩, kd, ⟨t0, t1⟩, ⟨a0, a1⟩, ⟨n0, n1⟩, v, en, tx⟩ hx
  have hM := ev_impl_LogInsert (l.map cvOp) ln lt ⟨⟨i0, i1⟩, kd, ⟨t0, t1⟩, ⟨a0, a1⟩, ⟨n0, n1⟩, v, en, tx⟩ hx
  have hm : (insR (l.map cvOp) ⟨⟨i0, i1⟩, kd, ⟨t0, t1⟩, ⟨a0, a1⟩, ⟨n0, n1⟩, v, en, tx⟩).1.length ≤ 2097152 := by
    unfold insR
    have := insL_len (l.map cvOp) ⟨⟨i0, i1⟩, kd, ⟨t0, t1⟩, ⟨a0, a1⟩, ⟨n0, n1⟩, v, en, tx⟩
    split
    · split <;> simp only <;> omega
    · simp
  simp only at hS hM
  refine evBind eT (evPut eO (evBind hS (evBind eT (evPut eO (evBind hM ?_)))))
  generalize insR (l.map cvOp) ⟨⟨i0, i1⟩, kd, ⟨t0, t1⟩, ⟨a0, a1⟩, ⟨n0, n1⟩, v, en, tx⟩ = m at hm hM ⊢
  obtain ⟨m, q⟩ := m
  simp only at hm ⊢
  obtain ⟨ma, ema, _, _⟩ := ev_laws_markOpS (l.map cvOp) 1 (by omega) (by omega) (by omega)
  obtain ⟨m2, em2, ml, mk⟩ := ev_laws_markOpS m 1 (by omega) (by omega) (by omega)
  have eM := ev_laws_eqOpS m (by omega)
  have eH := ev_laws_heldOpS m2 1 (by omega) (by omega) (by omega) mk
  rw [ml] at eH
  refine evBind eM (evIf rfl (evSucc ?_))
  simp only [laws_FnExactLogInsert.j0, bne_self_eq_false, Bool.false_eq_true, if_false]
  refine evBind eT (evBind (ev_laws_eqOpS _ (by omega)) (evIf rfl (evBind ema (evElse (by simp only; omega) (evBind eM (evIf rfl (evSucc ?_)))))))
  simp only [laws_FnExactLogInsert.j1, bne_self_eq_false, Bool.false_eq_true, if_false]
  refine evBind em2 (evBind eH (evElse (by omega) (evIf rfl (evBind eT (evPut eO (evBind hM (evBind eM (evIf rfl (evSucc ?_)))))))))
  simp only [laws_FnExactLogInsert.j2, bne_self_eq_false, Bool.false_eq_true, if_false]
  exact evBind eH (evElse (by omega) (evIf rfl (Ev.now _)))

end Go.Proofs.Ytomigiindmojkaa.Pure

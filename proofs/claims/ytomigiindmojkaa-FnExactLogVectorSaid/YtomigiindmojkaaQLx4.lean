/- Proved here: a call of each of these functions of the program does what the Lean function of the same name says. Conditions: the premises of each theorem (what the arguments read as). Written by a program of this session over the print of the kit, repaired, and joined with texts by hand. -/
import Derived.Test.YtomigiindmojkaaQLx0
import Derived.Test.YtomigiindmojkaaQLx3
namespace Go.Proofs.Ytomigiindmojkaa.QL
open Go.Proofs.Ytomigiindmojkaa.Base Go.RowKit Go.Proofs.YtomigiindmojkaaW.PrintWords Go.Proofs.YtomigiindmojkaaW.PrintLast Go.Proofs.YtomigiindmojkaaW.PrintMore
attribute [local go_sem] max2_int min2_int max_two min_two max_three min_three max_four min_four   -- for this text's walks alone
set_option linter.unusedVariables false
set_option linter.unusedSimpArgs false

/-! ### spec_validWord: function 65 -/
def spec_validWord.l0 : Nat → ByteArray → Int → Option (Bool)
  | 0, _, _ => none
  | k + 1, x0, x3 => if x3 < (x0.size : Int) then (if 0 ≤ x3 then (if (bt x0 x3) < 97 then (some false) else (if (bt x0 x3) > 122 then (some false) else (spec_validWord.l0 k x0 (wrap64 (x3 + 1))))) else (none)) else ((spec_inRange.f (x0.size : Int) 1 8).bind fun t112 => (some t112))
def spec_validWord.f (k : Nat) (a0 : ByteArray) : Option (Bool) := spec_validWord.l0 k a0 0
theorem spec_validWord.mono_l : ∀ k, (∀ y0 y1, LeO (spec_validWord.l0 k y0 y1) (spec_validWord.l0 (k + 1) y0 y1))
  | 0 => fun _ _ r h => by simp [spec_validWord.l0] at h
  | k + 1 => by
    have ih0 := spec_validWord.mono_l k
    · intro y0 y1
      unfold spec_validWord.l0
      repeat' first
      | (with_reducible exact ih0 _ _)
      | (with_reducible exact LeO.refl _)
      | (with_reducible exact LeO.none _)
      | (with_reducible refine LeO.ite ?_ ?_)
      | (with_reducible refine LeO.bind ?_ (fun _ => ?_))
      | exact ih0 _ _
      | exact LeO.none _
      | refine LeO.ite ?_ ?_
      | refine LeO.bind ?_ (fun _ => ?_)
theorem spec_validWord.mono : ∀ a0 k, LeO (spec_validWord.f k a0) (spec_validWord.f (k + 1) a0) := by
  intro a0 k
  have ih0 := spec_validWord.mono_l k
  unfold spec_validWord.f
  repeat' first
      | (with_reducible exact ih0 _ _)
      | (with_reducible exact LeO.refl _)
      | (with_reducible exact LeO.none _)
      | (with_reducible refine LeO.ite ?_ ?_)
      | (with_reducible refine LeO.bind ?_ (fun _ => ?_))
      | exact ih0 _ _
      | exact LeO.none _
      | refine LeO.ite ?_ ?_
      | refine LeO.bind ?_ (fun _ => ?_)
set_option maxHeartbeats 8000000 in
set_option maxRecDepth 100000 in
theorem spec_validWord.calls (k : Nat) (a0 : ByteArray) (r : Bool) (w : World) (h : spec_validWord.f k a0 = some r) :
    Calls Try.prog 65 #[.string a0] w fun e w' => e = .returned (.bool r) ∧ Drawn0 w w' := by
  have H : (spec_validWord.l0 k a0 0) = some r := h
  clear h
  have H' := Aside0.mk H
  clear H
  go_enter Try.func65, Try.ntmps65
  go_wp2
  go_loopg [3] k (fun kq v3 w' => ∃ (x3_1 : Int), v3 = .int .i64 x3_1 ∧ Aside0 (spec_validWord.l0 kq a0 x3_1 = some r) ∧ Aside0 (kq ≤ k) ∧ Drawn0 w w')
  case atStart => exact ⟨(0), (by first | rfl | (simp; done) | (simp [*]; done)), H', ⟨Nat.le_refl _⟩, by repeat (first | exact Drawn0.refl _ | apply Drawn0.step)⟩
  case round =>
    clear H'
    obtain ⟨x3_1, rfl, HA, HK1, ⟨m1, rfl⟩⟩ := hrel
    cases gk with
    | zero => exact absurd HA.out (by simp [spec_validWord.l0])
    | succ k1 =>
      have H := HA.out
      clear HA
      simp only [spec_validWord.l0] at H
      by_cases c2 : x3_1 < (a0.size : Int)
      · rw [if_pos c2] at H
        have c2b0 : decide (x3_1 < (a0.size : Int)) = true := decide_eq_true c2
        clear c2
        by_cases c3 : 0 ≤ x3_1
        · rw [if_pos c3] at H
          have c3b0 : decide (0 ≤ x3_1) = true := decide_eq_true c3
          clear c3
          by_cases c5 : (bt a0 x3_1) < 97
          · rw [if_pos c5] at H
            have c5b0 : decide ((bt a0 x3_1) < 97) = true := decide_eq_true c5
            clear c5
            obtain rfl := Option.some.inj H
            have p4 : 0 ≤ (x3_1 : Int) := of_decide_eq_true (by first | (with_reducible assumption) | assumption)
            have q4 : x3_1 < (a0.size : Int) := of_decide_eq_true (by first | (with_reducible assumption) | assumption)
            have hx4 := bt_at a0 x3_1
            replace p4 := eq_true p4
            replace q4 := eq_true q4
            go_wp2
            go_ret
            exact ⟨by first | rfl | (simp; done) | (simp [*]; done), by repeat (first | exact Drawn0.refl _ | apply Drawn0.step)⟩
          · rw [if_neg c5] at H
            have c5b0 : decide ((bt a0 x3_1) < 97) = false := decide_eq_false c5
            clear c5
            by_cases c7 : (bt a0 x3_1) > 122
            · rw [if_pos c7] at H
              have c7b0 : decide (122 < (bt a0 x3_1)) = true := decide_eq_true c7
              clear c7
              obtain rfl := Option.some.inj H
              have p4 : 0 ≤ (x3_1 : Int) := of_decide_eq_true (by first | (with_reducible assumption) | assumption)
              have q4 : x3_1 < (a0.size : Int) := of_decide_eq_true (by first | (with_reducible assumption) | assumption)
              have hx4 := bt_at a0 x3_1
              replace p4 := eq_true p4
              replace q4 := eq_true q4
              have p6 : 0 ≤ (x3_1 : Int) := of_decide_eq_true (by first | (with_reducible assumption) | assumption)
              have q6 : x3_1 < (a0.size : Int) := of_decide_eq_true (by first | (with_reducible assumption) | assumption)
              have hx6 := bt_at a0 x3_1
              replace p6 := eq_true p6
              replace q6 := eq_true q6
              go_wp2
              go_ret
              exact ⟨by first | rfl | (simp; done) | (simp [*]; done), by repeat (first | exact Drawn0.refl _ | apply Drawn0.step)⟩
            · rw [if_neg c7] at H
              have c7b0 : decide (122 < (bt a0 x3_1)) = false := decide_eq_false c7
              clear c7
              have H' := Aside0.mk H
              clear H
              have p4 : 0 ≤ (x3_1 : Int) := of_decide_eq_true (by first | (with_reducible assumption) | assumption)
              have q4 : x3_1 < (a0.size : Int) := of_decide_eq_true (by first | (with_reducible assumption) | assumption)
              have hx4 := bt_at a0 x3_1
              replace p4 := eq_true p4
              replace q4 := eq_true q4
              have p6 : 0 ≤ (x3_1 : Int) := of_decide_eq_true (by first | (with_reducible assumption) | assumption)
              have q6 : x3_1 < (a0.size : Int) := of_decide_eq_true (by first | (with_reducible assumption) | assumption)
              have hx6 := bt_at a0 x3_1
              replace p6 := eq_true p6
              replace q6 := eq_true q6
              go_wp2
              go_roundg k1
              case measure => have := HK1.out; omega
              case rel => exact ⟨(wrap64 (x3_1 + 1)), (by first | rfl | (simp; done) | (simp [*]; done)), H', ⟨by have := HK1.out; omega⟩, by repeat (first | exact Drawn0.refl _ | apply Drawn0.step)⟩
        · rw [if_neg c3] at H
          exact absurd H (by simp)
      · rw [if_neg c2] at H
        have c2b0 : decide (x3_1 < (a0.size : Int)) = false := decide_eq_false c2
        clear c2
        replace H := Option.bind_eq_some_iff.mp H
        obtain ⟨t112, A80, H⟩ := H
        replace H : (some t112) = some r := H
        have A8 := Aside0.mk A80
        clear A80
        obtain rfl := Option.some.inj H
        go_wp2_with (first | ((with_reducible refine gate_callee (f := 64) rfl ?_); refine goesL_ (some 22) rfl rfl Try.func64 (by kernel_rfl) rfl #[.int .i64 (a0.size : Int), .int .i64 1, .int .i64 8] rfl (by (try simp only [List.map_toArray, List.map_cons, List.map_nil]); first | done | rfl | (simp only [List.length_drop, List.length_take]; rfl)) ?_; (with_reducible refine (spec_inRange.calls (a0.size : Int) 1 8 t112 _ A8.out).mono ?_); rintro e w' ⟨rfl, ⟨nd, rfl⟩⟩; refine ⟨_, rfl, ?_⟩))
        go_ret
        exact ⟨by first | rfl | (simp; done) | (simp [*]; done), by repeat (first | exact Drawn0.refl _ | apply Drawn0.step)⟩

/-! ### spec_validOp: function 41 -/
theorem mq_spec_validStamp (a b : Int) : spec_validStamp.f a b = some (vst a b) := by
  unfold spec_validStamp.f vst spec_inRange.f
  by_cases h1 : 1 ≤ a <;> by_cases h2 : a ≤ 99 <;> by_cases h3 : 0 ≤ b <;> by_cases h4 : b ≤ 2 <;> simp [h1, h2, h3, h4]
theorem mq_spec_stampLess (a b c d : Int) : spec_stampLess.f a b c d = some (slt a b c d) := by
  unfold spec_stampLess.f slt
  by_cases h : a < c
  · simp [h]
  · by_cases h' : a = c <;> simp [h, h']
def vrB (i0 i1 t0 t1 : Int) (n : Bool) : Bool := if zB t0 t1 = true then n else refB i0 i1 t0 t1
theorem vrB_t (i0 i1 t0 t1 : Int) : vrB i0 i1 t0 t1 true = optB i0 i1 t0 t1 := by
  unfold vrB optB
  cases zB t0 t1 <;> rfl
theorem vrB_f (i0 i1 t0 t1 : Int) : vrB i0 i1 t0 t1 false = refB i0 i1 t0 t1 := by
  unfold vrB
  cases h : zB t0 t1 with
  | false => rfl
  | true =>
    simp only [zB, Bool.and_eq_true, beq_iff_eq] at h
    simp [refB, vst, h.1]
theorem mq_spec_validRef (i0 i1 kd b0 b1 a0 a1 n0 n1 v : Int) (en : Bool) (tx : ByteArray) (t0 t1 : Int) (n : Bool) : spec_validRef.f i0 i1 kd b0 b1 a0 a1 n0 n1 v en tx t0 t1 n = some (vrB i0 i1 t0 t1 n) := by
  unfold spec_validRef.f vrB refB zB
  rw [mq_spec_validStamp, mq_spec_stampLess]
  by_cases h : (t0 == 0 && (t1 == 0)) = true
  · rw [if_pos h, if_pos h]
  · rw [if_neg h, if_neg h]
    cases vst t0 t1 <;> rfl
theorem mq_spec_validWord_l0 (s : ByteArray) (hn : s.size ≤ 9223372036854775807) : ∀ (d i : Nat), i + d = s.size → Ev (fun k => spec_validWord.l0 k s (i : Int)) (((bytesOf s).drop i).all (fun x => decide (97 ≤ x ∧ x ≤ 122)) && decide (1 ≤ s.size ∧ s.size ≤ 8)) := by
  have hbl := bytesOf_length s
  intro d
  induction d with
  | zero =>
    intro i hi
    rw [List.drop_of_length_le (by omega), List.all_nil, Bool.true_and]
    refine Ev.step (fun _ => rfl) (evElse (by omega) ?_)
    by_cases h : 1 ≤ s.size
    · first
        | exact evPut (show spec_inRange.f (s.size : Int) 1 8 = some (decide (1 ≤ s.size ∧ s.size ≤ 8)) from by unfold spec_inRange.f; rw [if_pos (by omega)]; congr 1; rw [Bool.eq_iff_iff]; simp only [decide_eq_true_eq]; omega) (Ev.now _)
    · exact evPut (show spec_inRange.f (s.size : Int) 1 8 = some (decide (1 ≤ s.size ∧ s.size ≤ 8)) from by unfold spec_inRange.f; rw [if_neg (by omega)]; congr 1; rw [eq_comm, decide_eq_false_iff_not]; omega) (Ev.now _)
  | succ d ih =>
    intro i hi
    have e : bt s (i : Int) = (bytesOf s)[i]'(by omega) := by rw [← rd_bytesOf, rdAt _ _ (by omega)]
    rw [dropCons _ i (by omega), List.all_cons]
    refine Ev.step (fun _ => rfl) (evIf (by omega) (evIf (by omega) ?_))
    rw [e, show wrap64 ((i : Int) + 1) = ((i + 1 : Nat) : Int) from by rw [wrapId (by omega) (by omega)]; omega]
    generalize (bytesOf s)[i]'(by omega) = x
    by_cases h0 : x < 97
    · refine evIf h0 (evSome ?_)
      rw [show decide (97 ≤ x ∧ x ≤ 122) = false from by rw [decide_eq_false_iff_not]; omega]; rfl
    refine evElse h0 ?_
    by_cases h1 : x > 122
    · refine evIf h1 (evSome ?_)
      rw [show decide (97 ≤ x ∧ x ≤ 122) = false from by rw [decide_eq_false_iff_not]; omega]; rfl
    · refine evElse h1 (evEq (ih (i + 1) (by omega)) ?_)
      rw [show decide (97 ≤ x ∧ x ≤ 122) = true from by rw [decide_eq_true_iff]; omega, Bool.true_and]
theorem mq_spec_validWord (s : ByteArray) (hn : s.size ≤ 9223372036854775807) : ∃ k, spec_validWord.f k s = some (wordB s) :=
  (mq_spec_validWord_l0 s hn s.size 0 (by omega)).rounds
theorem sv_any (a b : Int) (w : World) : Calls Try.prog 61 #[.agg #[.int .i64 a, .int .i64 b]] w fun e w' => e = .returned (.bool (vst a b)) ∧ Below w.heap.size w w' := spec_validStamp.calls a b _ w (mq_spec_validStamp a b)
theorem sr_any (i0 i1 kd b0 b1 a0 a1 n0 n1 v : Int) (en : Bool) (tx : ByteArray) (t0 t1 : Int) (n : Bool) (w : World) : Calls Try.prog 62 #[.agg #[.int .i64 i0, .int .i64 i1, .int .i64 kd, .int .i64 b0, .int .i64 b1, .int .i64 a0, .int .i64 a1, .int .i64 n0, .int .i64 n1, .int .i64 v, .bool en, .string tx], .agg #[.int .i64 t0, .int .i64 t1], .bool n] w fun e w' => e = .returned (.bool (vrB i0 i1 t0 t1 n)) ∧ Below w.heap.size w w' := spec_validRef.calls _ _ _ _ _ _ _ _ _ _ _ _ _ _ _ _ w (mq_spec_validRef i0 i1 kd b0 b1 a0 a1 n0 n1 v en tx t0 t1 n)
theorem sz_any (a b : Int) (w : World) : Calls Try.prog 63 #[.agg #[.int .i64 a, .int .i64 b]] w fun e w' => e = .returned (.bool (zB a b)) ∧ Below w.heap.size w w' := spec_isZero.calls a b _ w rfl
theorem sn_any (a b c : Int) (w : World) : Calls Try.prog 64 #[.int .i64 a, .int .i64 b, .int .i64 c] w fun e w' => e = .returned (.bool (inB a b c)) ∧ Below w.heap.size w w' := (spec_inRange.calls a b c _ w (by
  unfold spec_inRange.f
  show _ = some (decide (b ≤ a ∧ a ≤ c))
  by_cases h : b ≤ a <;> simp [h])).mono fun _ _ h => ⟨h.1, h.2.below⟩
theorem sw_any (s : ByteArray) (hn : s.size ≤ 9223372036854775807) (w : World) : Calls Try.prog 65 #[.string s] w fun e w' => e = .returned (.bool (wordB s)) ∧ Below w.heap.size w w' := by
  obtain ⟨k, hk⟩ := mq_spec_validWord s hn
  exact (spec_validWord.calls k s _ w hk).mono fun _ _ h => ⟨h.1, h.2.below⟩
set_option maxHeartbeats 4000000 in
set_option maxRecDepth 100000 in
theorem spec_validOp.k1 (i0 i1 t0 t1 a0 a1 n0 n1 v : Int) (en : Bool) (tx : ByteArray) (hn : tx.size ≤ 9223372036854775807) (w : World) (c1 : vst i0 i1 = true) :
    Calls Try.prog 41 #[.agg #[.int .i64 i0, .int .i64 i1, .int .i64 1, .int .i64 t0, .int .i64 t1, .int .i64 a0, .int .i64 a1, .int .i64 n0, .int .i64 n1, .int .i64 v, .bool en, .string tx]] w fun e w' => e = .returned (.bool (vopB i0 i1 1 t0 t1 a0 a1 n0 n1 v en tx)) ∧ Below w.heap.size w w' := by
  have hu45 := Try.underlying30
  have hu43 := Try.underlying28
  generalize hR : vopB i0 i1 1 t0 t1 a0 a1 n0 n1 v en tx = R
  have HR := Aside0.mk hR
  clear hR
  have HN := Aside0.mk hn
  clear hn
  go_enter Try.func41, Try.ntmps41
  go_wp2_with fail
  have HB := Aside0.mk (below_alloc (Below.refl w.heap.size w) (.cells #[.int .i64 i0, .int .i64 i1, .int .i64 1, .int .i64 t0, .int .i64 t1, .int .i64 a0, .int .i64 a1, .int .i64 n0, .int .i64 n1, .int .i64 v, .bool en, .string tx] 30))
  have BK := Aside0.mk (blk_new w (.cells #[.int .i64 i0, .int .i64 i1, .int .i64 1, .int .i64 t0, .int .i64 t1, .int .i64 a0, .int .i64 a1, .int .i64 n0, .int .i64 n1, .int .i64 v, .bool en, .string tx] 30))
  generalize w.alloc _ = w0 at HB BK ⊢
  generalize w.heap.size = g at BK ⊢
  have hx := blk_cell BK.out
  go_wp2_with (first
    | (go_at_call 61; refine (sv_any _ _ _).mono ?_; rintro e w1 ⟨rfl, hb⟩; have n0 := Aside0.mk (below_step HB.out hb); have n1 := Aside0.mk (blk_below BK.out hb); clear HB BK hx hb; have HB := n0; have BK := n1; clear n0 n1; have hx := blk_cell BK.out)
    | (go_at_call 62; refine (sr_any _ _ _ _ _ _ _ _ _ _ _ _ _ _ _ _).mono ?_; rintro e w1 ⟨rfl, hb⟩; have n0 := Aside0.mk (below_step HB.out hb); have n1 := Aside0.mk (blk_below BK.out hb); clear HB BK hx hb; have HB := n0; have BK := n1; clear n0 n1; have hx := blk_cell BK.out)
    | (go_at_call 63; refine (sz_any _ _ _).mono ?_; rintro e w1 ⟨rfl, hb⟩; have n0 := Aside0.mk (below_step HB.out hb); have n1 := Aside0.mk (blk_below BK.out hb); clear HB BK hx hb; have HB := n0; have BK := n1; clear n0 n1; have hx := blk_cell BK.out)
    | (go_at_call 64; refine (sn_any _ _ _ _).mono ?_; rintro e w1 ⟨rfl, hb⟩; have n0 := Aside0.mk (below_step HB.out hb); have n1 := Aside0.mk (blk_below BK.out hb); clear HB BK hx hb; have HB := n0; have BK := n1; clear n0 n1; have hx := blk_cell BK.out)
    | (go_at_call 65; refine (sw_any _ HN.out _).mono ?_; rintro e w1 ⟨rfl, hb⟩; have n0 := Aside0.mk (below_step HB.out hb); have n1 := Aside0.mk (blk_below BK.out hb); clear HB BK hx hb; have HB := n0; have BK := n1; clear n0 n1; have hx := blk_cell BK.out))
  all_goals
    go_ret
    refine ⟨?_, HB.out⟩
    rw [← HR.out]
    simp only [vrB_t, vrB_f] at *
    simp [vopB, emB, *]
set_option maxHeartbeats 4000000 in
set_option maxRecDepth 100000 in
theorem spec_validOp.k2 (i0 i1 t0 t1 a0 a1 n0 n1 v : Int) (en : Bool) (tx : ByteArray) (hn : tx.size ≤ 9223372036854775807) (w : World) (c1 : vst i0 i1 = true) :
    Calls Try.prog 41 #[.agg #[.int .i64 i0, .int .i64 i1, .int .i64 2, .int .i64 t0, .int .i64 t1, .int .i64 a0, .int .i64 a1, .int .i64 n0, .int .i64 n1, .int .i64 v, .bool en, .string tx]] w fun e w' => e = .returned (.bool (vopB i0 i1 2 t0 t1 a0 a1 n0 n1 v en tx)) ∧ Below w.heap.size w w' := by
  have hu45 := Try.underlying30
  have hu43 := Try.underlying28
  generalize hR : vopB i0 i1 2 t0 t1 a0 a1 n0 n1 v en tx = R
  have HR := Aside0.mk hR
  clear hR
  have HN := Aside0.mk hn
  clear hn
  go_enter Try.func41, Try.ntmps41
  go_wp2_with fail
  have HB := Aside0.mk (below_alloc (Below.refl w.heap.size w) (.cells #[.int .i64 i0, .int .i64 i1, .int .i64 2, .int .i64 t0, .int .i64 t1, .int .i64 a0, .int .i64 a1, .int .i64 n0, .int .i64 n1, .int .i64 v, .bool en, .string tx] 30))
  have BK := Aside0.mk (blk_new w (.cells #[.int .i64 i0, .int .i64 i1, .int .i64 2, .int .i64 t0, .int .i64 t1, .int .i64 a0, .int .i64 a1, .int .i64 n0, .int .i64 n1, .int .i64 v, .bool en, .string tx] 30))
  generalize w.alloc _ = w0 at HB BK ⊢
  generalize w.heap.size = g at BK ⊢
  have hx := blk_cell BK.out
  go_wp2_with (first
    | (go_at_call 61; refine (sv_any _ _ _).mono ?_; rintro e w1 ⟨rfl, hb⟩; have n0 := Aside0.mk (below_step HB.out hb); have n1 := Aside0.mk (blk_below BK.out hb); clear HB BK hx hb; have HB := n0; have BK := n1; clear n0 n1; have hx := blk_cell BK.out)
    | (go_at_call 62; refine (sr_any _ _ _ _ _ _ _ _ _ _ _ _ _ _ _ _).mono ?_; rintro e w1 ⟨rfl, hb⟩; have n0 := Aside0.mk (below_step HB.out hb); have n1 := Aside0.mk (blk_below BK.out hb); clear HB BK hx hb; have HB := n0; have BK := n1; clear n0 n1; have hx := blk_cell BK.out)
    | (go_at_call 63; refine (sz_any _ _ _).mono ?_; rintro e w1 ⟨rfl, hb⟩; have n0 := Aside0.mk (below_step HB.out hb); have n1 := Aside0.mk (blk_below BK.out hb); clear HB BK hx hb; have HB := n0; have BK := n1; clear n0 n1; have hx := blk_cell BK.out)
    | (go_at_call 64; refine (sn_any _ _ _ _).mono ?_; rintro e w1 ⟨rfl, hb⟩; have n0 := Aside0.mk (below_step HB.out hb); have n1 := Aside0.mk (blk_below BK.out hb); clear HB BK hx hb; have HB := n0; have BK := n1; clear n0 n1; have hx := blk_cell BK.out)
    | (go_at_call 65; refine (sw_any _ HN.out _).mono ?_; rintro e w1 ⟨rfl, hb⟩; have n0 := Aside0.mk (below_step HB.out hb); have n1 := Aside0.mk (blk_below BK.out hb); clear HB BK hx hb; have HB := n0; have BK := n1; clear n0 n1; have hx := blk_cell BK.out))
  all_goals
    go_ret
    refine ⟨?_, HB.out⟩
    rw [← HR.out]
    simp only [vrB_t, vrB_f] at *
    simp [vopB, emB, *]
set_option maxHeartbeats 4000000 in
set_option maxRecDepth 100000 in
theorem spec_validOp.k3 (i0 i1 t0 t1 a0 a1 n0 n1 v : Int) (en : Bool) (tx : ByteArray) (hn : tx.size ≤ 9223372036854775807) (w : World) (c1 : vst i0 i1 = true) :
    Calls Try.prog 41 #[.agg #[.int .i64 i0, .int .i64 i1, .int .i64 3, .int .i64 t0, .int .i64 t1, .int .i64 a0, .int .i64 a1, .int .i64 n0, .int .i64 n1, .int .i64 v, .bool en, .string tx]] w fun e w' => e = .returned (.bool (vopB i0 i1 3 t0 t1 a0 a1 n0 n1 v en tx)) ∧ Below w.heap.size w w' := by
  have hu45 := Try.underlying30
  have hu43 := Try.underlying28
  generalize hR : vopB i0 i1 3 t0 t1 a0 a1 n0 n1 v en tx = R
  have HR := Aside0.mk hR
  clear hR
  have HN := Aside0.mk hn
  clear hn
  go_enter Try.func41, Try.ntmps41
  go_wp2_with fail
  have HB := Aside0.mk (below_alloc (Below.refl w.heap.size w) (.cells #[.int .i64 i0, .int .i64 i1, .int .i64 3, .int .i64 t0, .int .i64 t1, .int .i64 a0, .int .i64 a1, .int .i64 n0, .int .i64 n1, .int .i64 v, .bool en, .string tx] 30))
  have BK := Aside0.mk (blk_new w (.cells #[.int .i64 i0, .int .i64 i1, .int .i64 3, .int .i64 t0, .int .i64 t1, .int .i64 a0, .int .i64 a1, .int .i64 n0, .int .i64 n1, .int .i64 v, .bool en, .string tx] 30))
  generalize w.alloc _ = w0 at HB BK ⊢
  generalize w.heap.size = g at BK ⊢
  have hx := blk_cell BK.out
  go_wp2_with (first
    | (go_at_call 61; refine (sv_any _ _ _).mono ?_; rintro e w1 ⟨rfl, hb⟩; have n0 := Aside0.mk (below_step HB.out hb); have n1 := Aside0.mk (blk_below BK.out hb); clear HB BK hx hb; have HB := n0; have BK := n1; clear n0 n1; have hx := blk_cell BK.out)
    | (go_at_call 62; refine (sr_any _ _ _ _ _ _ _ _ _ _ _ _ _ _ _ _).mono ?_; rintro e w1 ⟨rfl, hb⟩; have n0 := Aside0.mk (below_step HB.out hb); have n1 := Aside0.mk (blk_below BK.out hb); clear HB BK hx hb; have HB := n0; have BK := n1; clear n0 n1; have hx := blk_cell BK.out)
    | (go_at_call 63; refine (sz_any _ _ _).mono ?_; rintro e w1 ⟨rfl, hb⟩; have n0 := Aside0.mk (below_step HB.out hb); have n1 := Aside0.mk (blk_below BK.out hb); clear HB BK hx hb; have HB := n0; have BK := n1; clear n0 n1; have hx := blk_cell BK.out)
    | (go_at_call 64; refine (sn_any _ _ _ _).mono ?_; rintro e w1 ⟨rfl, hb⟩; have n0 := Aside0.mk (below_step HB.out hb); have n1 := Aside0.mk (blk_below BK.out hb); clear HB BK hx hb; have HB := n0; have BK := n1; clear n0 n1; have hx := blk_cell BK.out)
    | (go_at_call 65; refine (sw_any _ HN.out _).mono ?_; rintro e w1 ⟨rfl, hb⟩; have n0 := Aside0.mk (below_step HB.out hb); have n1 := Aside0.mk (blk_below BK.out hb); clear HB BK hx hb; have HB := n0; have BK := n1; clear n0 n1; have hx := blk_cell BK.out))
  all_goals
    go_ret
    refine ⟨?_, HB.out⟩
    rw [← HR.out]
    simp only [vrB_t, vrB_f] at *
    simp [vopB, emB, *]
set_option maxHeartbeats 4000000 in
set_option maxRecDepth 100000 in
theorem spec_validOp.k4 (i0 i1 t0 t1 a0 a1 n0 n1 v : Int) (en : Bool) (tx : ByteArray) (hn : tx.size ≤ 9223372036854775807) (w : World) (c1 : vst i0 i1 = true) :
    Calls Try.prog 41 #[.agg #[.int .i64 i0, .int .i64 i1, .int .i64 4, .int .i64 t0, .int .i64 t1, .int .i64 a0, .int .i64 a1, .int .i64 n0, .int .i64 n1, .int .i64 v, .bool en, .string tx]] w fun e w' => e = .returned (.bool (vopB i0 i1 4 t0 t1 a0 a1 n0 n1 v en tx)) ∧ Below w.heap.size w w' := by
  have hu45 := Try.underlying30
  have hu43 := Try.underlying28
  generalize hR : vopB i0 i1 4 t0 t1 a0 a1 n0 n1 v en tx = R
  have HR := Aside0.mk hR
  clear hR
  have HN := Aside0.mk hn
  clear hn
  go_enter Try.func41, Try.ntmps41
  go_wp2_with fail
  have HB := Aside0.mk (below_alloc (Below.refl w.heap.size w) (.cells #[.int .i64 i0, .int .i64 i1, .int .i64 4, .int .i64 t0, .int .i64 t1, .int .i64 a0, .int .i64 a1, .int .i64 n0, .int .i64 n1, .int .i64 v, .bool en, .string tx] 30))
  have BK := Aside0.mk (blk_new w (.cells #[.int .i64 i0, .int .i64 i1, .int .i64 4, .int .i64 t0, .int .i64 t1, .int .i64 a0, .int .i64 a1, .int .i64 n0, .int .i64 n1, .int .i64 v, .bool en, .string tx] 30))
  generalize w.alloc _ = w0 at HB BK ⊢
  generalize w.heap.size = g at BK ⊢
  have hx := blk_cell BK.out
  go_wp2_with (first
    | (go_at_call 61; refine (sv_any _ _ _).mono ?_; rintro e w1 ⟨rfl, hb⟩; have n0 := Aside0.mk (below_step HB.out hb); have n1 := Aside0.mk (blk_below BK.out hb); clear HB BK hx hb; have HB := n0; have BK := n1; clear n0 n1; have hx := blk_cell BK.out)
    | (go_at_call 62; refine (sr_any _ _ _ _ _ _ _ _ _ _ _ _ _ _ _ _).mono ?_; rintro e w1 ⟨rfl, hb⟩; have n0 := Aside0.mk (below_step HB.out hb); have n1 := Aside0.mk (blk_below BK.out hb); clear HB BK hx hb; have HB := n0; have BK := n1; clear n0 n1; have hx := blk_cell BK.out)
    | (go_at_call 63; refine (sz_any _ _ _).mono ?_; rintro e w1 ⟨rfl, hb⟩; have n0 := Aside0.mk (below_step HB.out hb); have n1 := Aside0.mk (blk_below BK.out hb); clear HB BK hx hb; have HB := n0; have BK := n1; clear n0 n1; have hx := blk_cell BK.out)
    | (go_at_call 64; refine (sn_any _ _ _ _).mono ?_; rintro e w1 ⟨rfl, hb⟩; have n0 := Aside0.mk (below_step HB.out hb); have n1 := Aside0.mk (blk_below BK.out hb); clear HB BK hx hb; have HB := n0; have BK := n1; clear n0 n1; have hx := blk_cell BK.out)
    | (go_at_call 65; refine (sw_any _ HN.out _).mono ?_; rintro e w1 ⟨rfl, hb⟩; have n0 := Aside0.mk (below_step HB.out hb); have n1 := Aside0.mk (blk_below BK.out hb); clear HB BK hx hb; have HB := n0; have BK := n1; clear n0 n1; have hx := blk_cell BK.out))
  all_goals
    go_ret
    refine ⟨?_, HB.out⟩
    rw [← HR.out]
    simp only [vrB_t, vrB_f] at *
    simp [vopB, emB, *]
set_option maxHeartbeats 4000000 in
set_option maxRecDepth 100000 in
theorem spec_validOp.k5 (i0 i1 t0 t1 a0 a1 n0 n1 v : Int) (en : Bool) (tx : ByteArray) (hn : tx.size ≤ 9223372036854775807) (w : World) (c1 : vst i0 i1 = true) :
    Calls Try.prog 41 #[.agg #[.int .i64 i0, .int .i64 i1, .int .i64 5, .int .i64 t0, .int .i64 t1, .int .i64 a0, .int .i64 a1, .int .i64 n0, .int .i64 n1, .int .i64 v, .bool en, .string tx]] w fun e w' => e = .returned (.bool (vopB i0 i1 5 t0 t1 a0 a1 n0 n1 v en tx)) ∧ Below w.heap.size w w' := by
  have hu45 := Try.underlying30
  have hu43 := Try.underlying28
  generalize hR : vopB i0 i1 5 t0 t1 a0 a1 n0 n1 v en tx = R
  have HR := Aside0.mk hR
  clear hR
  have HN := Aside0.mk hn
  clear hn
  go_enter Try.func41, Try.ntmps41
  go_wp2_with fail
  have HB := Aside0.mk (below_alloc (Below.refl w.heap.size w) (.cells #[.int .i64 i0, .int .i64 i1, .int .i64 5, .int .i64 t0, .int .i64 t1, .int .i64 a0, .int .i64 a1, .int .i64 n0, .int .i64 n1, .int .i64 v, .bool en, .string tx] 30))
  have BK := Aside0.mk (blk_new w (.cells #[.int .i64 i0, .int .i64 i1, .int .i64 5, .int .i64 t0, .int .i64 t1, .int .i64 a0, .int .i64 a1, .int .i64 n0, .int .i64 n1, .int .i64 v, .bool en, .string tx] 30))
  generalize w.alloc _ = w0 at HB BK ⊢
  generalize w.heap.size = g at BK ⊢
  have hx := blk_cell BK.out
  go_wp2_with (first
    | (go_at_call 61; refine (sv_any _ _ _).mono ?_; rintro e w1 ⟨rfl, hb⟩; have n0 := Aside0.mk (below_step HB.out hb); have n1 := Aside0.mk (blk_below BK.out hb); clear HB BK hx hb; have HB := n0; have BK := n1; clear n0 n1; have hx := blk_cell BK.out)
    | (go_at_call 62; refine (sr_any _ _ _ _ _ _ _ _ _ _ _ _ _ _ _ _).mono ?_; rintro e w1 ⟨rfl, hb⟩; have n0 := Aside0.mk (below_step HB.out hb); have n1 := Aside0.mk (blk_below BK.out hb); clear HB BK hx hb; have HB := n0; have BK := n1; clear n0 n1; have hx := blk_cell BK.out)
    | (go_at_call 63; refine (sz_any _ _ _).mono ?_; rintro e w1 ⟨rfl, hb⟩; have n0 := Aside0.mk (below_step HB.out hb); have n1 := Aside0.mk (blk_below BK.out hb); clear HB BK hx hb; have HB := n0; have BK := n1; clear n0 n1; have hx := blk_cell BK.out)
    | (go_at_call 64; refine (sn_any _ _ _ _).mono ?_; rintro e w1 ⟨rfl, hb⟩; have n0 := Aside0.mk (below_step HB.out hb); have n1 := Aside0.mk (blk_below BK.out hb); clear HB BK hx hb; have HB := n0; have BK := n1; clear n0 n1; have hx := blk_cell BK.out)
    | (go_at_call 65; refine (sw_any _ HN.out _).mono ?_; rintro e w1 ⟨rfl, hb⟩; have n0 := Aside0.mk (below_step HB.out hb); have n1 := Aside0.mk (blk_below BK.out hb); clear HB BK hx hb; have HB := n0; have BK := n1; clear n0 n1; have hx := blk_cell BK.out))
  all_goals
    go_ret
    refine ⟨?_, HB.out⟩
    rw [← HR.out]
    simp only [vrB_t, vrB_f] at *
    simp [vopB, emB, *]
set_option maxHeartbeats 4000000 in
set_option maxRecDepth 100000 in
theorem spec_validOp.k6 (i0 i1 t0 t1 a0 a1 n0 n1 v : Int) (en : Bool) (tx : ByteArray) (hn : tx.size ≤ 9223372036854775807) (w : World) (c1 : vst i0 i1 = true) :
    Calls Try.prog 41 #[.agg #[.int .i64 i0, .int .i64 i1, .int .i64 6, .int .i64 t0, .int .i64 t1, .int .i64 a0, .int .i64 a1, .int .i64 n0, .int .i64 n1, .int .i64 v, .bool en, .string tx]] w fun e w' => e = .returned (.bool (vopB i0 i1 6 t0 t1 a0 a1 n0 n1 v en tx)) ∧ Below w.heap.size w w' := by
  have hu45 := Try.underlying30
  have hu43 := Try.underlying28
  generalize hR : vopB i0 i1 6 t0 t1 a0 a1 n0 n1 v en tx = R
  have HR := Aside0.mk hR
  clear hR
  have HN := Aside0.mk hn
  clear hn
  go_enter Try.func41, Try.ntmps41
  go_wp2_with fail
  have HB := Aside0.mk (below_alloc (Below.refl w.heap.size w) (.cells #[.int .i64 i0, .int .i64 i1, .int .i64 6, .int .i64 t0, .int .i64 t1, .int .i64 a0, .int .i64 a1, .int .i64 n0, .int .i64 n1, .int .i64 v, .bool en, .string tx] 30))
  have BK := Aside0.mk (blk_new w (.cells #[.int .i64 i0, .int .i64 i1, .int .i64 6, .int .i64 t0, .int .i64 t1, .int .i64 a0, .int .i64 a1, .int .i64 n0, .int .i64 n1, .int .i64 v, .bool en, .string tx] 30))
  generalize w.alloc _ = w0 at HB BK ⊢
  generalize w.heap.size = g at BK ⊢
  have hx := blk_cell BK.out
  go_wp2_with (first
    | (go_at_call 61; refine (sv_any _ _ _).mono ?_; rintro e w1 ⟨rfl, hb⟩; have n0 := Aside0.mk (below_step HB.out hb); have n1 := Aside0.mk (blk_below BK.out hb); clear HB BK hx hb; have HB := n0; have BK := n1; clear n0 n1; have hx := blk_cell BK.out)
    | (go_at_call 62; refine (sr_any _ _ _ _ _ _ _ _ _ _ _ _ _ _ _ _).mono ?_; rintro e w1 ⟨rfl, hb⟩; have n0 := Aside0.mk (below_step HB.out hb); have n1 := Aside0.mk (blk_below BK.out hb); clear HB BK hx hb; have HB := n0; have BK := n1; clear n0 n1; have hx := blk_cell BK.out)
    | (go_at_call 63; refine (sz_any _ _ _).mono ?_; rintro e w1 ⟨rfl, hb⟩; have n0 := Aside0.mk (below_step HB.out hb); have n1 := Aside0.mk (blk_below BK.out hb); clear HB BK hx hb; have HB := n0; have BK := n1; clear n0 n1; have hx := blk_cell BK.out)
    | (go_at_call 64; refine (sn_any _ _ _ _).mono ?_; rintro e w1 ⟨rfl, hb⟩; have n0 := Aside0.mk (below_step HB.out hb); have n1 := Aside0.mk (blk_below BK.out hb); clear HB BK hx hb; have HB := n0; have BK := n1; clear n0 n1; have hx := blk_cell BK.out)
    | (go_at_call 65; refine (sw_any _ HN.out _).mono ?_; rintro e w1 ⟨rfl, hb⟩; have n0 := Aside0.mk (below_step HB.out hb); have n1 := Aside0.mk (blk_below BK.out hb); clear HB BK hx hb; have HB := n0; have BK := n1; clear n0 n1; have hx := blk_cell BK.out))
  all_goals
    go_ret
    refine ⟨?_, HB.out⟩
    rw [← HR.out]
    simp only [vrB_t, vrB_f] at *
    simp [vopB, emB, *]
set_option maxHeartbeats 4000000 in
set_option maxRecDepth 100000 in
theorem spec_validOp.k7 (i0 i1 t0 t1 a0 a1 n0 n1 v : Int) (en : Bool) (tx : ByteArray) (hn : tx.size ≤ 9223372036854775807) (w : World) (c1 : vst i0 i1 = true) :
    Calls Try.prog 41 #[.agg #[.int .i64 i0, .int .i64 i1, .int .i64 7, .int .i64 t0, .int .i64 t1, .int .i64 a0, .int .i64 a1, .int .i64 n0, .int .i64 n1, .int .i64 v, .bool en, .string tx]] w fun e w' => e = .returned (.bool (vopB i0 i1 7 t0 t1 a0 a1 n0 n1 v en tx)) ∧ Below w.heap.size w w' := by
  have hu45 := Try.underlying30
  have hu43 := Try.underlying28
  generalize hR : vopB i0 i1 7 t0 t1 a0 a1 n0 n1 v en tx = R
  have HR := Aside0.mk hR
  clear hR
  have HN := Aside0.mk hn
  clear hn
  go_enter Try.func41, Try.ntmps41
  go_wp2_with fail
  have HB := Aside0.mk (below_alloc (Below.refl w.heap.size w) (.cells #[.int .i64 i0, .int .i64 i1, .int .i64 7, .int .i64 t0, .int .i64 t1, .int .i64 a0, .int .i64 a1, .int .i64 n0, .int .i64 n1, .int .i64 v, .bool en, .string tx] 30))
  have BK := Aside0.mk (blk_new w (.cells #[.int .i64 i0, .int .i64 i1, .int .i64 7, .int .i64 t0, .int .i64 t1, .int .i64 a0, .int .i64 a1, .int .i64 n0, .int .i64 n1, .int .i64 v, .bool en, .string tx] 30))
  generalize w.alloc _ = w0 at HB BK ⊢
  generalize w.heap.size = g at BK ⊢
  have hx := blk_cell BK.out
  go_wp2_with (first
    | (go_at_call 61; refine (sv_any _ _ _).mono ?_; rintro e w1 ⟨rfl, hb⟩; have n0 := Aside0.mk (below_step HB.out hb); have n1 := Aside0.mk (blk_below BK.out hb); clear HB BK hx hb; have HB := n0; have BK := n1; clear n0 n1; have hx := blk_cell BK.out)
    | (go_at_call 62; refine (sr_any _ _ _ _ _ _ _ _ _ _ _ _ _ _ _ _).mono ?_; rintro e w1 ⟨rfl, hb⟩; have n0 := Aside0.mk (below_step HB.out hb); have n1 := Aside0.mk (blk_below BK.out hb); clear HB BK hx hb; have HB := n0; have BK := n1; clear n0 n1; have hx := blk_cell BK.out)
    | (go_at_call 63; refine (sz_any _ _ _).mono ?_; rintro e w1 ⟨rfl, hb⟩; have n0 := Aside0.mk (below_step HB.out hb); have n1 := Aside0.mk (blk_below BK.out hb); clear HB BK hx hb; have HB := n0; have BK := n1; clear n0 n1; have hx := blk_cell BK.out)
    | (go_at_call 64; refine (sn_any _ _ _ _).mono ?_; rintro e w1 ⟨rfl, hb⟩; have n0 := Aside0.mk (below_step HB.out hb); have n1 := Aside0.mk (blk_below BK.out hb); clear HB BK hx hb; have HB := n0; have BK := n1; clear n0 n1; have hx := blk_cell BK.out)
    | (go_at_call 65; refine (sw_any _ HN.out _).mono ?_; rintro e w1 ⟨rfl, hb⟩; have n0 := Aside0.mk (below_step HB.out hb); have n1 := Aside0.mk (blk_below BK.out hb); clear HB BK hx hb; have HB := n0; have BK := n1; clear n0 n1; have hx := blk_cell BK.out))
  all_goals
    go_ret
    refine ⟨?_, HB.out⟩
    rw [← HR.out]
    simp only [vrB_t, vrB_f] at *
    simp [vopB, emB, *]
set_option maxHeartbeats 4000000 in
set_option maxRecDepth 100000 in
theorem spec_validOp.k8 (i0 i1 t0 t1 a0 a1 n0 n1 v : Int) (en : Bool) (tx : ByteArray) (hn : tx.size ≤ 9223372036854775807) (w : World) (c1 : vst i0 i1 = true) :
    Calls Try.prog 41 #[.agg #[.int .i64 i0, .int .i64 i1, .int .i64 8, .int .i64 t0, .int .i64 t1, .int .i64 a0, .int .i64 a1, .int .i64 n0, .int .i64 n1, .int .i64 v, .bool en, .string tx]] w fun e w' => e = .returned (.bool (vopB i0 i1 8 t0 t1 a0 a1 n0 n1 v en tx)) ∧ Below w.heap.size w w' := by
  have hu45 := Try.underlying30
  have hu43 := Try.underlying28
  generalize hR : vopB i0 i1 8 t0 t1 a0 a1 n0 n1 v en tx = R
  have HR := Aside0.mk hR
  clear hR
  have HN := Aside0.mk hn
  clear hn
  go_enter Try.func41, Try.ntmps41
  go_wp2_with fail
  have HB := Aside0.mk (below_alloc (Below.refl w.heap.size w) (.cells #[.int .i64 i0, .int .i64 i1, .int .i64 8, .int .i64 t0, .int .i64 t1, .int .i64 a0, .int .i64 a1, .int .i64 n0, .int .i64 n1, .int .i64 v, .bool en, .string tx] 30))
  have BK := Aside0.mk (blk_new w (.cells #[.int .i64 i0, .int .i64 i1, .int .i64 8, .int .i64 t0, .int .i64 t1, .int .i64 a0, .int .i64 a1, .int .i64 n0, .int .i64 n1, .int .i64 v, .bool en, .string tx] 30))
  generalize w.alloc _ = w0 at HB BK ⊢
  generalize w.heap.size = g at BK ⊢
  have hx := blk_cell BK.out
  go_wp2_with (first
    | (go_at_call 61; refine (sv_any _ _ _).mono ?_; rintro e w1 ⟨rfl, hb⟩; have n0 := Aside0.mk (below_step HB.out hb); have n1 := Aside0.mk (blk_below BK.out hb); clear HB BK hx hb; have HB := n0; have BK := n1; clear n0 n1; have hx := blk_cell BK.out)
    | (go_at_call 62; refine (sr_any _ _ _ _ _ _ _ _ _ _ _ _ _ _ _ _).mono ?_; rintro e w1 ⟨rfl, hb⟩; have n0 := Aside0.mk (below_step HB.out hb); have n1 := Aside0.mk (blk_below BK.out hb); clear HB BK hx hb; have HB := n0; have BK := n1; clear n0 n1; have hx := blk_cell BK.out)
    | (go_at_call 63; refine (sz_any _ _ _).mono ?_; rintro e w1 ⟨rfl, hb⟩; have n0 := Aside0.mk (below_step HB.out hb); have n1 := Aside0.mk (blk_below BK.out hb); clear HB BK hx hb; have HB := n0; have BK := n1; clear n0 n1; have hx := blk_cell BK.out)
    | (go_at_call 64; refine (sn_any _ _ _ _).mono ?_; rintro e w1 ⟨rfl, hb⟩; have n0 := Aside0.mk (below_step HB.out hb); have n1 := Aside0.mk (blk_below BK.out hb); clear HB BK hx hb; have HB := n0; have BK := n1; clear n0 n1; have hx := blk_cell BK.out)
    | (go_at_call 65; refine (sw_any _ HN.out _).mono ?_; rintro e w1 ⟨rfl, hb⟩; have n0 := Aside0.mk (below_step HB.out hb); have n1 := Aside0.mk (blk_below BK.out hb); clear HB BK hx hb; have HB := n0; have BK := n1; clear n0 n1; have hx := blk_cell BK.out))
  all_goals
    go_ret
    refine ⟨?_, HB.out⟩
    rw [← HR.out]
    simp only [vrB_t, vrB_f] at *
    simp [vopB, emB, *]
set_option maxHeartbeats 4000000 in
set_option maxRecDepth 100000 in
theorem spec_validOp.k9 (i0 i1 t0 t1 a0 a1 n0 n1 v : Int) (en : Bool) (tx : ByteArray) (hn : tx.size ≤ 9223372036854775807) (w : World) (c1 : vst i0 i1 = true) :
    Calls Try.prog 41 #[.agg #[.int .i64 i0, .int .i64 i1, .int .i64 9, .int .i64 t0, .int .i64 t1, .int .i64 a0, .int .i64 a1, .int .i64 n0, .int .i64 n1, .int .i64 v, .bool en, .string tx]] w fun e w' => e = .returned (.bool (vopB i0 i1 9 t0 t1 a0 a1 n0 n1 v en tx)) ∧ Below w.heap.size w w' := by
  have hu45 := Try.underlying30
  have hu43 := Try.underlying28
  generalize hR : vopB i0 i1 9 t0 t1 a0 a1 n0 n1 v en tx = R
  have HR := Aside0.mk hR
  clear hR
  have HN := Aside0.mk hn
  clear hn
  go_enter Try.func41, Try.ntmps41
  go_wp2_with fail
  have HB := Aside0.mk (below_alloc (Below.refl w.heap.size w) (.cells #[.int .i64 i0, .int .i64 i1, .int .i64 9, .int .i64 t0, .int .i64 t1, .int .i64 a0, .int .i64 a1, .int .i64 n0, .int .i64 n1, .int .i64 v, .bool en, .string tx] 30))
  have BK := Aside0.mk (blk_new w (.cells #[.int .i64 i0, .int .i64 i1, .int .i64 9, .int .i64 t0, .int .i64 t1, .int .i64 a0, .int .i64 a1, .int .i64 n0, .int .i64 n1, .int .i64 v, .bool en, .string tx] 30))
  generalize w.alloc _ = w0 at HB BK ⊢
  generalize w.heap.size = g at BK ⊢
  have hx := blk_cell BK.out
  go_wp2_with (first
    | (go_at_call 61; refine (sv_any _ _ _).mono ?_; rintro e w1 ⟨rfl, hb⟩; have n0 := Aside0.mk (below_step HB.out hb); have n1 := Aside0.mk (blk_below BK.out hb); clear HB BK hx hb; have HB := n0; have BK := n1; clear n0 n1; have hx := blk_cell BK.out)
    | (go_at_call 62; refine (sr_any _ _ _ _ _ _ _ _ _ _ _ _ _ _ _ _).mono ?_; rintro e w1 ⟨rfl, hb⟩; have n0 := Aside0.mk (below_step HB.out hb); have n1 := Aside0.mk (blk_below BK.out hb); clear HB BK hx hb; have HB := n0; have BK := n1; clear n0 n1; have hx := blk_cell BK.out)
    | (go_at_call 63; refine (sz_any _ _ _).mono ?_; rintro e w1 ⟨rfl, hb⟩; have n0 := Aside0.mk (below_step HB.out hb); have n1 := Aside0.mk (blk_below BK.out hb); clear HB BK hx hb; have HB := n0; have BK := n1; clear n0 n1; have hx := blk_cell BK.out)
    | (go_at_call 64; refine (sn_any _ _ _ _).mono ?_; rintro e w1 ⟨rfl, hb⟩; have n0 := Aside0.mk (below_step HB.out hb); have n1 := Aside0.mk (blk_below BK.out hb); clear HB BK hx hb; have HB := n0; have BK := n1; clear n0 n1; have hx := blk_cell BK.out)
    | (go_at_call 65; refine (sw_any _ HN.out _).mono ?_; rintro e w1 ⟨rfl, hb⟩; have n0 := Aside0.mk (below_step HB.out hb); have n1 := Aside0.mk (blk_below BK.out hb); clear HB BK hx hb; have HB := n0; have BK := n1; clear n0 n1; have hx := blk_cell BK.out))
  all_goals
    go_ret
    refine ⟨?_, HB.out⟩
    rw [← HR.out]
    simp only [vrB_t, vrB_f] at *
    simp [vopB, emB, *]
set_option maxHeartbeats 4000000 in
set_option maxRecDepth 100000 in
theorem spec_validOp.k10 (i0 i1 t0 t1 a0 a1 n0 n1 v : Int) (en : Bool) (tx : ByteArray) (hn : tx.size ≤ 9223372036854775807) (w : World) (c1 : vst i0 i1 = true) :
    Calls Try.prog 41 #[.agg #[.int .i64 i0, .int .i64 i1, .int .i64 10, .int .i64 t0, .int .i64 t1, .int .i64 a0, .int .i64 a1, .int .i64 n0, .int .i64 n1, .int .i64 v, .bool en, .string tx]] w fun e w' => e = .returned (.bool (vopB i0 i1 10 t0 t1 a0 a1 n0 n1 v en tx)) ∧ Below w.heap.size w w' := by
  have hu45 := Try.underlying30
  have hu43 := Try.underlying28
  generalize hR : vopB i0 i1 10 t0 t1 a0 a1 n0 n1 v en tx = R
  have HR := Aside0.mk hR
  clear hR
  have HN := Aside0.mk hn
  clear hn
  go_enter Try.func41, Try.ntmps41
  go_wp2_with fail
  have HB := Aside0.mk (below_alloc (Below.refl w.heap.size w) (.cells #[.int .i64 i0, .int .i64 i1, .int .i64 10, .int .i64 t0, .int .i64 t1, .int .i64 a0, .int .i64 a1, .int .i64 n0, .int .i64 n1, .int .i64 v, .bool en, .string tx] 30))
  have BK := Aside0.mk (blk_new w (.cells #[.int .i64 i0, .int .i64 i1, .int .i64 10, .int .i64 t0, .int .i64 t1, .int .i64 a0, .int .i64 a1, .int .i64 n0, .int .i64 n1, .int .i64 v, .bool en, .string tx] 30))
  generalize w.alloc _ = w0 at HB BK ⊢
  generalize w.heap.size = g at BK ⊢
  have hx := blk_cell BK.out
  go_wp2_with (first
    | (go_at_call 61; refine (sv_any _ _ _).mono ?_; rintro e w1 ⟨rfl, hb⟩; have n0 := Aside0.mk (below_step HB.out hb); have n1 := Aside0.mk (blk_below BK.out hb); clear HB BK hx hb; have HB := n0; have BK := n1; clear n0 n1; have hx := blk_cell BK.out)
    | (go_at_call 62; refine (sr_any _ _ _ _ _ _ _ _ _ _ _ _ _ _ _ _).mono ?_; rintro e w1 ⟨rfl, hb⟩; have n0 := Aside0.mk (below_step HB.out hb); have n1 := Aside0.mk (blk_below BK.out hb); clear HB BK hx hb; have HB := n0; have BK := n1; clear n0 n1; have hx := blk_cell BK.out)
    | (go_at_call 63; refine (sz_any _ _ _).mono ?_; rintro e w1 ⟨rfl, hb⟩; have n0 := Aside0.mk (below_step HB.out hb); have n1 := Aside0.mk (blk_below BK.out hb); clear HB BK hx hb; have HB := n0; have BK := n1; clear n0 n1; have hx := blk_cell BK.out)
    | (go_at_call 64; refine (sn_any _ _ _ _).mono ?_; rintro e w1 ⟨rfl, hb⟩; have n0 := Aside0.mk (below_step HB.out hb); have n1 := Aside0.mk (blk_below BK.out hb); clear HB BK hx hb; have HB := n0; have BK := n1; clear n0 n1; have hx := blk_cell BK.out)
    | (go_at_call 65; refine (sw_any _ HN.out _).mono ?_; rintro e w1 ⟨rfl, hb⟩; have n0 := Aside0.mk (below_step HB.out hb); have n1 := Aside0.mk (blk_below BK.out hb); clear HB BK hx hb; have HB := n0; have BK := n1; clear n0 n1; have hx := blk_cell BK.out))
  all_goals
    go_ret
    refine ⟨?_, HB.out⟩
    rw [← HR.out]
    simp only [vrB_t, vrB_f] at *
    simp [vopB, emB, *]
set_option maxHeartbeats 4000000 in
set_option maxRecDepth 100000 in
theorem spec_validOp.k0 (i0 i1 kd t0 t1 a0 a1 n0 n1 v : Int) (en : Bool) (tx : ByteArray) (hn : tx.size ≤ 9223372036854775807) (w : World) (c1 : vst i0 i1 = false) :
    Calls Try.prog 41 #[.agg #[.int .i64 i0, .int .i64 i1, .int .i64 kd, .int .i64 t0, .int .i64 t1, .int .i64 a0, .int .i64 a1, .int .i64 n0, .int .i64 n1, .int .i64 v, .bool en, .string tx]] w fun e w' => e = .returned (.bool (vopB i0 i1 kd t0 t1 a0 a1 n0 n1 v en tx)) ∧ Below w.heap.size w w' := by
  have hu45 := Try.underlying30
  have hu43 := Try.underlying28
  generalize hR : vopB i0 i1 kd t0 t1 a0 a1 n0 n1 v en tx = R
  have HR := Aside0.mk hR
  clear hR
  have HN := Aside0.mk hn
  clear hn
  go_enter Try.func41, Try.ntmps41
  go_wp2_with fail
  have HB := Aside0.mk (below_alloc (Below.refl w.heap.size w) (.cells #[.int .i64 i0, .int .i64 i1, .int .i64 kd, .int .i64 t0, .int .i64 t1, .int .i64 a0, .int .i64 a1, .int .i64 n0, .int .i64 n1, .int .i64 v, .bool en, .string tx] 30))
  have BK := Aside0.mk (blk_new w (.cells #[.int .i64 i0, .int .i64 i1, .int .i64 kd, .int .i64 t0, .int .i64 t1, .int .i64 a0, .int .i64 a1, .int .i64 n0, .int .i64 n1, .int .i64 v, .bool en, .string tx] 30))
  generalize w.alloc _ = w0 at HB BK ⊢
  generalize w.heap.size = g at BK ⊢
  have hx := blk_cell BK.out
  go_wp2_with (first
    | (go_at_call 61; refine (sv_any _ _ _).mono ?_; rintro e w1 ⟨rfl, hb⟩; have n0 := Aside0.mk (below_step HB.out hb); have n1 := Aside0.mk (blk_below BK.out hb); clear HB BK hx hb; have HB := n0; have BK := n1; clear n0 n1; have hx := blk_cell BK.out)
    | (go_at_call 62; refine (sr_any _ _ _ _ _ _ _ _ _ _ _ _ _ _ _ _).mono ?_; rintro e w1 ⟨rfl, hb⟩; have n0 := Aside0.mk (below_step HB.out hb); have n1 := Aside0.mk (blk_below BK.out hb); clear HB BK hx hb; have HB := n0; have BK := n1; clear n0 n1; have hx := blk_cell BK.out)
    | (go_at_call 63; refine (sz_any _ _ _).mono ?_; rintro e w1 ⟨rfl, hb⟩; have n0 := Aside0.mk (below_step HB.out hb); have n1 := Aside0.mk (blk_below BK.out hb); clear HB BK hx hb; have HB := n0; have BK := n1; clear n0 n1; have hx := blk_cell BK.out)
    | (go_at_call 64; refine (sn_any _ _ _ _).mono ?_; rintro e w1 ⟨rfl, hb⟩; have n0 := Aside0.mk (below_step HB.out hb); have n1 := Aside0.mk (blk_below BK.out hb); clear HB BK hx hb; have HB := n0; have BK := n1; clear n0 n1; have hx := blk_cell BK.out)
    | (go_at_call 65; refine (sw_any _ HN.out _).mono ?_; rintro e w1 ⟨rfl, hb⟩; have n0 := Aside0.mk (below_step HB.out hb); have n1 := Aside0.mk (blk_below BK.out hb); clear HB BK hx hb; have HB := n0; have BK := n1; clear n0 n1; have hx := blk_cell BK.out))
  all_goals
    go_ret
    refine ⟨?_, HB.out⟩
    rw [← HR.out]
    simp only [vrB_t, vrB_f] at *
    simp [vopB, emB, *]
set_option maxHeartbeats 4000000 in
set_option maxRecDepth 100000 in
theorem spec_validOp.kx (i0 i1 kd t0 t1 a0 a1 n0 n1 v : Int) (en : Bool) (tx : ByteArray) (hn : tx.size ≤ 9223372036854775807) (w : World) (c1 : vst i0 i1 = true) (h1 : (kd == 1) = false) (h2 : (kd == 2) = false) (h3 : (kd == 3) = false) (h4 : (kd == 4) = false) (h5 : (kd == 5) = false) (h6 : (kd == 6) = false) (h7 : (kd == 7) = false) (h8 : (kd == 8) = false) (h9 : (kd == 9) = false) (h10 : (kd == 10) = false) :
    Calls Try.prog 41 #[.agg #[.int .i64 i0, .int .i64 i1, .int .i64 kd, .int .i64 t0, .int .i64 t1, .int .i64 a0, .int .i64 a1, .int .i64 n0, .int .i64 n1, .int .i64 v, .bool en, .string tx]] w fun e w' => e = .returned (.bool (vopB i0 i1 kd t0 t1 a0 a1 n0 n1 v en tx)) ∧ Below w.heap.size w w' := by
  have hu45 := Try.underlying30
  have hu43 := Try.underlying28
  generalize hR : vopB i0 i1 kd t0 t1 a0 a1 n0 n1 v en tx = R
  have HR := Aside0.mk hR
  clear hR
  have HN := Aside0.mk hn
  clear hn
  go_enter Try.func41, Try.ntmps41
  go_wp2_with fail
  have HB := Aside0.mk (below_alloc (Below.refl w.heap.size w) (.cells #[.int .i64 i0, .int .i64 i1, .int .i64 kd, .int .i64 t0, .int .i64 t1, .int .i64 a0, .int .i64 a1, .int .i64 n0, .int .i64 n1, .int .i64 v, .bool en, .string tx] 30))
  have BK := Aside0.mk (blk_new w (.cells #[.int .i64 i0, .int .i64 i1, .int .i64 kd, .int .i64 t0, .int .i64 t1, .int .i64 a0, .int .i64 a1, .int .i64 n0, .int .i64 n1, .int .i64 v, .bool en, .string tx] 30))
  generalize w.alloc _ = w0 at HB BK ⊢
  generalize w.heap.size = g at BK ⊢
  have hx := blk_cell BK.out
  go_wp2_with (first
    | (go_at_call 61; refine (sv_any _ _ _).mono ?_; rintro e w1 ⟨rfl, hb⟩; have n0 := Aside0.mk (below_step HB.out hb); have n1 := Aside0.mk (blk_below BK.out hb); clear HB BK hx hb; have HB := n0; have BK := n1; clear n0 n1; have hx := blk_cell BK.out)
    | (go_at_call 62; refine (sr_any _ _ _ _ _ _ _ _ _ _ _ _ _ _ _ _).mono ?_; rintro e w1 ⟨rfl, hb⟩; have n0 := Aside0.mk (below_step HB.out hb); have n1 := Aside0.mk (blk_below BK.out hb); clear HB BK hx hb; have HB := n0; have BK := n1; clear n0 n1; have hx := blk_cell BK.out)
    | (go_at_call 63; refine (sz_any _ _ _).mono ?_; rintro e w1 ⟨rfl, hb⟩; have n0 := Aside0.mk (below_step HB.out hb); have n1 := Aside0.mk (blk_below BK.out hb); clear HB BK hx hb; have HB := n0; have BK := n1; clear n0 n1; have hx := blk_cell BK.out)
    | (go_at_call 64; refine (sn_any _ _ _ _).mono ?_; rintro e w1 ⟨rfl, hb⟩; have n0 := Aside0.mk (below_step HB.out hb); have n1 := Aside0.mk (blk_below BK.out hb); clear HB BK hx hb; have HB := n0; have BK := n1; clear n0 n1; have hx := blk_cell BK.out)
    | (go_at_call 65; refine (sw_any _ HN.out _).mono ?_; rintro e w1 ⟨rfl, hb⟩; have n0 := Aside0.mk (below_step HB.out hb); have n1 := Aside0.mk (blk_below BK.out hb); clear HB BK hx hb; have HB := n0; have BK := n1; clear n0 n1; have hx := blk_cell BK.out))
  all_goals
    go_ret
    refine ⟨?_, HB.out⟩
    rw [← HR.out]
    simp only [vrB_t, vrB_f] at *
    have e : ∀ m : Int, (kd == m) = false → ¬ kd = m := fun m h => by simpa using h
    simp [vopB, e _ h1, e _ h2, e _ h3, e _ h4, e _ h5, e _ h6, e _ h7, e _ h8, e _ h9, e _ h10]
def spec_validOp.f (a0_0 a0_1 a0_2 a0_3 a0_4 a0_5 a0_6 a0_7 a0_8 a0_9 : Int) (a0_10 : Bool) (a0_11 : ByteArray) : Option (Bool) := if a0_11.size ≤ 9223372036854775807 then some (vopB a0_0 a0_1 a0_2 a0_3 a0_4 a0_5 a0_6 a0_7 a0_8 a0_9 a0_10 a0_11) else none
theorem spec_validOp.calls (a0_0 a0_1 a0_2 a0_3 a0_4 a0_5 a0_6 a0_7 a0_8 a0_9 : Int) (a0_10 : Bool) (a0_11 : ByteArray) (r : Bool) (w : World) (h : spec_validOp.f a0_0 a0_1 a0_2 a0_3 a0_4 a0_5 a0_6 a0_7 a0_8 a0_9 a0_10 a0_11 = some r) :
    Calls Try.prog 41 #[.agg #[.int .i64 a0_0, .int .i64 a0_1, .int .i64 a0_2, .int .i64 a0_3, .int .i64 a0_4, .int .i64 a0_5, .int .i64 a0_6, .int .i64 a0_7, .int .i64 a0_8, .int .i64 a0_9, .bool a0_10, .string a0_11]] w fun e w' => e = .returned (.bool r) ∧ Below w.heap.size w w' := by
  unfold spec_validOp.f at h
  by_cases hn : a0_11.size ≤ 9223372036854775807
  · rw [if_pos hn] at h
    obtain rfl := Option.some.inj h
    by_cases c1 : vst a0_0 a0_1 = true
    · by_cases k1 : a0_2 = 1
      · subst k1; exact spec_validOp.k1 _ _ _ _ _ _ _ _ _ _ _ hn w c1
      by_cases k2 : a0_2 = 2
      · subst k2; exact spec_validOp.k2 _ _ _ _ _ _ _ _ _ _ _ hn w c1
      by_cases k3 : a0_2 = 3
      · subst k3; exact spec_validOp.k3 _ _ _ _ _ _ _ _ _ _ _ hn w c1
      by_cases k4 : a0_2 = 4
      · subst k4; exact spec_validOp.k4 _ _ _ _ _ _ _ _ _ _ _ hn w c1
      by_cases k5 : a0_2 = 5
      · subst k5; exact spec_validOp.k5 _ _ _ _ _ _ _ _ _ _ _ hn w c1
      by_cases k6 : a0_2 = 6
      · subst k6; exact spec_validOp.k6 _ _ _ _ _ _ _ _ _ _ _ hn w c1
      by_cases k7 : a0_2 = 7
      · subst k7; exact spec_validOp.k7 _ _ _ _ _ _ _ _ _ _ _ hn w c1
      by_cases k8 : a0_2 = 8
      · subst k8; exact spec_validOp.k8 _ _ _ _ _ _ _ _ _ _ _ hn w c1
      by_cases k9 : a0_2 = 9
      · subst k9; exact spec_validOp.k9 _ _ _ _ _ _ _ _ _ _ _ hn w c1
      by_cases k10 : a0_2 = 10
      · subst k10; exact spec_validOp.k10 _ _ _ _ _ _ _ _ _ _ _ hn w c1
      exact spec_validOp.kx _ _ _ _ _ _ _ _ _ _ _ _ hn w c1 (by simpa using k1) (by simpa using k2) (by simpa using k3) (by simpa using k4) (by simpa using k5) (by simpa using k6) (by simpa using k7) (by simpa using k8) (by simpa using k9) (by simpa using k10)
    · exact spec_validOp.k0 _ _ _ _ _ _ _ _ _ _ _ _ hn w (by simpa using c1)
  · rw [if_neg hn] at h
    cases h

/-! ### spec_ValidOp: function 12 -/
def spec_ValidOp.f (a0_0 : Int) (a0_1 : Int) (a0_2 : Int) (a0_3 : Int) (a0_4 : Int) (a0_5 : Int) (a0_6 : Int) (a0_7 : Int) (a0_8 : Int) (a0_9 : Int) (a0_10 : Bool) (a0_11 : ByteArray) : Option (Bool) := (spec_validOp.f a0_0 a0_1 a0_2 a0_3 a0_4 a0_5 a0_6 a0_7 a0_8 a0_9 a0_10 a0_11).bind fun t114 => (some t114)
set_option maxHeartbeats 8000000 in
set_option maxRecDepth 100000 in
theorem spec_ValidOp.calls (a0_0 : Int) (a0_1 : Int) (a0_2 : Int) (a0_3 : Int) (a0_4 : Int) (a0_5 : Int) (a0_6 : Int) (a0_7 : Int) (a0_8 : Int) (a0_9 : Int) (a0_10 : Bool) (a0_11 : ByteArray) (r : Bool) (w : World) (h : spec_ValidOp.f a0_0 a0_1 a0_2 a0_3 a0_4 a0_5 a0_6 a0_7 a0_8 a0_9 a0_10 a0_11 = some r) :
    Calls Try.prog 12 #[.agg #[.int .i64 a0_0, .int .i64 a0_1, .int .i64 a0_2, .int .i64 a0_3, .int .i64 a0_4, .int .i64 a0_5, .int .i64 a0_6, .int .i64 a0_7, .int .i64 a0_8, .int .i64 a0_9, .bool a0_10, .string a0_11]] w fun e w' => e = .returned (.bool r) ∧ Below w.heap.size w w' := by
  have hu30 := Try.underlying30
  have HB := Aside0.mk (Below.refl w.heap.size w)
  have H : ((spec_validOp.f a0_0 a0_1 a0_2 a0_3 a0_4 a0_5 a0_6 a0_7 a0_8 a0_9 a0_10 a0_11).bind fun t114 => (some t114)) = some r := h
  clear h
  replace H := Option.bind_eq_some_iff.mp H
  obtain ⟨t114, A20, H⟩ := H
  replace H : (some t114) = some r := H
  have A2 := Aside0.mk A20
  clear A20
  obtain rfl := Option.some.inj H
  go_enter Try.func12, Try.ntmps12
  go_wp2_with (first | ((with_reducible refine gate_dst (N := 1) rfl ?_); refine box_event ?hg (N := 1) ?hd (cs := #[.int .i64 a0_0, .int .i64 a0_1, .int .i64 a0_2, .int .i64 a0_3, .int .i64 a0_4, .int .i64 a0_5, .int .i64 a0_6, .int .i64 a0_7, .int .i64 a0_8, .int .i64 a0_9, .bool a0_10, .string a0_11]) (t := 30) ?hr ?_; (case hd => rfl); (case hg => rfl); (case hr => first | (go_simp; done) | (go_simp; rfl)); intro gb113 hg w3 hbox hb; have n0_ := Aside0.mk (below_step (by repeat (first | (with_reducible first | exact HB.out | apply below_alloc | apply pw_below_drewN | apply below_drew1) | exact HB.out)) hb); have n1_ := Aside0.mk (hbox); have n2_ := Aside0.mk ((by rw [hg]; exact (below_size (by repeat (first | (with_reducible first | exact HB.out | apply below_alloc | apply pw_below_drewN | apply below_drew1) | exact HB.out))) : w.heap.size ≤ gb113)); have n3_ := Aside0.mk ((by rw [hg]; exact (below_size (by repeat (first | (with_reducible first | exact HB.out | apply below_alloc | apply pw_below_drewN | apply below_drew1) | exact HB.out))) : w.heap.size ≤ gb113)); clear HB; have HB := n0_; have BK113 := n1_; have GW113 := n2_; have GE113 := n3_; clear n0_ n1_ n2_ n3_; clear hb hbox hg; have hcz4_0 : w3.cell? ⟨gb113, 0, none⟩ = some (.int .i64 a0_0) := (blk_cell BK113.out 0).trans rfl; have hcz4_1 : w3.cell? ⟨gb113, 1, none⟩ = some (.int .i64 a0_1) := (blk_cell BK113.out 1).trans rfl; have hcz4_2 : w3.cell? ⟨gb113, 2, none⟩ = some (.int .i64 a0_2) := (blk_cell BK113.out 2).trans rfl; have hcz4_3 : w3.cell? ⟨gb113, 3, none⟩ = some (.int .i64 a0_3) := (blk_cell BK113.out 3).trans rfl; have hcz4_4 : w3.cell? ⟨gb113, 4, none⟩ = some (.int .i64 a0_4) := (blk_cell BK113.out 4).trans rfl; have hcz4_5 : w3.cell? ⟨gb113, 5, none⟩ = some (.int .i64 a0_5) := (blk_cell BK113.out 5).trans rfl; have hcz4_6 : w3.cell? ⟨gb113, 6, none⟩ = some (.int .i64 a0_6) := (blk_cell BK113.out 6).trans rfl; have hcz4_7 : w3.cell? ⟨gb113, 7, none⟩ = some (.int .i64 a0_7) := (blk_cell BK113.out 7).trans rfl; have hcz4_8 : w3.cell? ⟨gb113, 8, none⟩ = some (.int .i64 a0_8) := (blk_cell BK113.out 8).trans rfl; have hcz4_9 : w3.cell? ⟨gb113, 9, none⟩ = some (.int .i64 a0_9) := (blk_cell BK113.out 9).trans rfl; have hcz4_10 : w3.cell? ⟨gb113, 10, none⟩ = some (.bool a0_10) := (blk_cell BK113.out 10).trans rfl; have hcz4_11 : w3.cell? ⟨gb113, 11, none⟩ = some (.string a0_11) := (blk_cell BK113.out 11).trans rfl; have hfz4_0 := blk_frozen BK113.out 0; have hfz4_1 := blk_frozen BK113.out 1; have hfz4_2 := blk_frozen BK113.out 2; have hfz4_3 := blk_frozen BK113.out 3; have hfz4_4 := blk_frozen BK113.out 4; have hfz4_5 := blk_frozen BK113.out 5; have hfz4_6 := blk_frozen BK113.out 6; have hfz4_7 := blk_frozen BK113.out 7; have hfz4_8 := blk_frozen BK113.out 8; have hfz4_9 := blk_frozen BK113.out 9; have hfz4_10 := blk_frozen BK113.out 10; have hfz4_11 := blk_frozen BK113.out 11) | ((with_reducible refine gate_callee (f := 41) rfl ?_); refine goesL_ (some 4) rfl rfl Try.func41 (by kernel_rfl) rfl #[.agg #[.int .i64 a0_0, .int .i64 a0_1, .int .i64 a0_2, .int .i64 a0_3, .int .i64 a0_4, .int .i64 a0_5, .int .i64 a0_6, .int .i64 a0_7, .int .i64 a0_8, .int .i64 a0_9, .bool a0_10, .string a0_11]] rfl (by (try simp only [List.map_toArray, List.map_cons, List.map_nil]); first | done | rfl | (simp only [List.length_drop, List.length_take]; rfl)) ?_; (with_reducible refine (spec_validOp.calls a0_0 a0_1 a0_2 a0_3 a0_4 a0_5 a0_6 a0_7 a0_8 a0_9 a0_10 a0_11 t114 _ A2.out).mono ?_); rintro e w5 ⟨rfl, hb⟩; refine ⟨_, rfl, ?_⟩; have n0_ := Aside0.mk (blk_below (g := gb113) (o := .cells #[.int .i64 a0_0, .int .i64 a0_1, .int .i64 a0_2, .int .i64 a0_3, .int .i64 a0_4, .int .i64 a0_5, .int .i64 a0_6, .int .i64 a0_7, .int .i64 a0_8, .int .i64 a0_9, .bool a0_10, .string a0_11] 30 (0, 0)) (by (with_reducible repeat (first | refine blk_drewN ?_ _ | refine blk_drew ?_ | refine blk_alloc ?_ _)); exact BK113.out) hb); have n1_ := Aside0.mk (below_step (by repeat (first | (with_reducible first | exact HB.out | apply below_alloc | apply pw_below_drewN | apply below_drew1 | refine below_set ?_ GE113.out) | exact HB.out)) hb); clear BK113; clear HB; have BK113 := n0_; have HB := n1_; clear n0_ n1_; (try clear hb); (try clear hb2); (try clear hk); (try clear hi)))
  go_ret
  exact ⟨by first | rfl | (simp [errW_none, errW_some] <;> rfl) | (simp [*, errW_none, errW_some] <;> rfl), by repeat (first | (with_reducible first | exact HB.out | apply below_alloc | apply pw_below_drewN | apply below_drew1 | refine below_set ?_ GE113.out) | exact HB.out)⟩

end Go.Proofs.Ytomigiindmojkaa.QL

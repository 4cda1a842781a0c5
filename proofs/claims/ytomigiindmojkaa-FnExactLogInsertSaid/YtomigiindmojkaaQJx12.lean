/- A call of each function named here does what the Lean function of that name says. Conditions: each theorem's premises. Printed by the kit, repaired by a program, joined with texts by hand. -/
import Derived.Test.YtomigiindmojkaaQJx0
import Derived.Test.YtomigiindmojkaaQJx10
import Derived.Test.YtomigiindmojkaaQJx11
namespace Go.Proofs.Ytomigiindmojkaa.QJ
open Go.Proofs.Ytomigiindmojkaa.Base Go.RowKit Go.Proofs.YtomigiindmojkaaW.PrintWords Go.Proofs.YtomigiindmojkaaW.PrintLast Go.Proofs.YtomigiindmojkaaW.PrintMore
attribute [local go_sem] max2_int min2_int max_two min_two max_three min_three max_four min_four   -- for this text's walks alone
set_option linter.unusedVariables false
set_option linter.unusedSimpArgs false

/-! ### spec_validOp: function 41 -/
theorem mq_spec_validStamp (a b : Int) : spec_validStamp.f a b = some (vst a b) := by
 unfold spec_validStamp.f vst spec_inRange.f
 by_cases h1 : 1 ≤ a <;> by_cases h2 : a ≤ 99 <;> by_cases h3 : 0 ≤ b <;> by_cases h4 : b ≤ 2 <;> simp [h1, h2, h3, h4]
theorem mq_spec_stampLess (a b c d : Int) : spec_stampLess.f a b c d = some (slt a b c d) := by
 unfold spec_stampLess.f slt
 by_cases h : a < c
 ·simp [h]
 ·by_cases h' : a = c <;> simp [h, h']
def vrB (i0 i1 t0 t1 : Int) (n : Bool) : Bool := if zB t0 t1 = true then n else refB i0 i1 t0 t1
theorem vrB_t (i0 i1 t0 t1 : Int) : vrB i0 i1 t0 t1 true = optB i0 i1 t0 t1 := by
 unfold vrB optB
 cases zB t0 t1 <;> rfl
theorem vrB_f (i0 i1 t0 t1 : Int) : vrB i0 i1 t0 t1 false = refB i0 i1 t0 t1 := by
 unfold vrB
 cases h : zB t0 t1 with
 | false => rfl
 | true =>
  simp only [zB, Bool.and_eq_true, beq_iff_eq] at h
  simp [refB, vst, h.1]
theorem mq_spec_validRef (i0 i1 kd b0 b1 a0 a1 n0 n1 v : Int) (en : Bool) (tx : ByteArray) (t0 t1 : Int) (n : Bool) : spec_validRef.f i0 i1 kd b0 b1 a0 a1 n0 n1 v en tx t0 t1 n = some (vrB i0 i1 t0 t1 n) := by
 unfold spec_validRef.f vrB refB zB
 rw [mq_spec_validStamp, mq_spec_stampLess]
 by_cases h : (t0 == 0 && (t1 == 0)) = true
 ·rw [if_pos h, if_pos h]
 ·rw [if_neg h, if_neg h]
  cases vst t0 t1 <;> rfl
theorem mq_spec_validWord_l0 (s : ByteArray) (hn : s.size ≤ 9223372036854775807) : ∀ (d i : Nat), i + d = s.size → Ev (fun k => spec_validWord.l0 k s (i : Int)) (((bytesOf s).drop i).all (fun x => decide (97 ≤ x ∧ x ≤ 122)) && decide (1 ≤ s.size ∧ s.size ≤ 8)) := by
 have hbl := bytesOf_length s
 intro d
 induction d with
 | zero =>
  intro i hi
  rw [List.drop_of_length_le (by omega), List.all_nil, Bool.true_and]
  refine Ev.step (fun _ => rfl) (evElse (by omega) ?_)
  by_cases h : 1 ≤ s.size
  ·first
    | exact evPut (show spec_inRange.f (s.size : Int) 1 8 = some (decide (1 ≤ s.size ∧ s.size ≤ 8)) from by unfold spec_inRange.f; rw [if_pos (by omega)]; congr 1; rw [Bool.eq_iff_iff]; simp only [decide_eq_true_eq]; omega) (Ev.now _)
  ·exact evPut (show spec_inRange.f (s.size : Int) 1 8 = some (decide (1 ≤ s.size ∧ s.size ≤ 8)) from by unfold spec_inRange.f; rw [if_neg (by omega)]; congr 1; rw [eq_comm, decide_eq_false_iff_not]; omega) (Ev.now _)
 | succ d ih =>
  intro i hi
  have e : bt s (i : Int) = (bytesOf s)[i]'(by omega) := by rw [← rd_bytesOf, rdAt _ _ (by omega)]
  rw [dropCons _ i (by omega), List.all_cons]
  refine Ev.step (fun _ => rfl) (evIf (by omega) (evIf (by omega) ?_))
  rw [e, show wrap64 ((i : Int) + 1) = ((i + 1 : Nat) : Int) from by rw [wrapId (by omega) (by omega)]; omega]
  generalize (bytesOf s)[i]'(by omega) = x
  by_cases h0 : x < 97
  ·refine evIf h0 (evSome ?_)
   rw [show decide (97 ≤ x ∧ x ≤ 122) = false from by rw [decide_eq_false_iff_not]; omega]; rfl
  refine evElse h0 ?_
  by_cases h1 : x > 122
  ·refine evIf h1 (evSome ?_)
   rw [show decide (97 ≤ x ∧ x ≤ 122) = false from by rw [decide_eq_false_iff_not]; omega]; rfl
  ·refine evElse h1 (evEq (ih (i + 1) (by omega)) ?_)
   rw [show decide (97 ≤ x ∧ x ≤ 122) = true from by rw [decide_eq_true_iff]; omega, Bool.true_and]
theorem mq_spec_validWord (s : ByteArray) (hn : s.size ≤ 9223372036854775807) : ∃ k, spec_validWord.f k s = some (wordB s) :=
 (mq_spec_validWord_l0 s hn s.size 0 (by omega)).rounds
theorem sv_any (a b : Int) (w : World) : Calls Try.prog 61 #[.agg #[.int .i64 a, .int .i64 b]] w fun e w' => e = .returned (.bool (vst a b)) ∧ Below w.heap.size w w' := spec_validStamp.calls a b _ w (mq_spec_validStamp a b)
theorem sr_any (i0 i1 kd b0 b1 a0 a1 n0 n1 v : Int) (en : Bool) (tx : ByteArray) (t0 t1 : Int) (n : Bool) (w : World) : Calls Try.prog 62 #[.agg #[.int .i64 i0, .int .i64 i1, .int .i64 kd, .int .i64 b0, .int .i64 b1, .int .i64 a0, .int .i64 a1, .int .i64 n0, .int .i64 n1, .int .i64 v, .bool en, .string tx], .agg #[.int .i64 t0, .int .i64 t1], .bool n] w fun e w' => e = .returned (.bool (vrB i0 i1 t0 t1 n)) ∧ Below w.heap.size w w' := spec_validRef.calls _ _ _ _ _ _ _ _ _ _ _ _ _ _ _ _ w (mq_spec_validRef i0 i1 kd b0 b1 a0 a1 n0 n1 v en tx t0 t1 n)
theorem sz_any (a b : Int) (w : World) : Calls Try.prog 63 #[.agg #[.int .i64 a, .int .i64 b]] w fun e w' => e = .returned (.bool (zB a b)) ∧ Below w.heap.size w w' := spec_isZero.calls a b _ w rfl
theorem sn_any (a b c : Int) (w : World) : Calls Try.prog 64 #[.int .i64 a, .int .i64 b, .int .i64 c] w fun e w' => e = .returned (.bool (inB a b c)) ∧ Below w.heap.size w w' := (spec_inRange.calls a b c _ w (by
 unfold spec_inRange.f
 show _ = some (decide (b ≤ a ∧ a ≤ c))
 by_cases h : b ≤ a <;> simp [h])).mono fun _ _ h => ⟨h.1, h.2.below⟩
theorem sw_any (s : ByteArray) (hn : s.size ≤ 9223372036854775807) (w : World) : Calls Try.prog 65 #[.string s] w fun e w' => e = .returned (.bool (wordB s)) ∧ Below w.heap.size w w' := by
 obtain ⟨k, hk⟩ := mq_spec_validWord s hn
 exact (spec_validWord.calls k s _ w hk).mono fun _ _ h => ⟨h.1, h.2.below⟩
set_option maxHeartbeats 4000000 in
set_option maxRecDepth 100000 in
theorem spec_validOp.k1 (i0 i1 t0 t1 a0 a1 n0 n1 v : Int) (en : Bool) (tx : ByteArray) (hn : tx.size ≤ 9223372036854775807) (w : World) (c1 : vst i0 i1 = true) :
  Calls Try.prog 41 #[.agg #[.int .i64 i0, .int .i64 i1, .int .i64 1, .int .i64 t0, .int .i64 t1, .int .i64 a0, .int .i64 a1, .int .i64 n0, .int .i64 n1, .int .i64 v, .bool en, .string tx]] w fun e w' => e = .returned (.bool (vopB i0 i1 1 t0 t1 a0 a1 n0 n1 v en tx)) ∧ Below w.heap.size w w' := by
 have hu45 := Try.underlying30
 have hu43 := Try.underlying28
 generalize hR : vopB i0 i1 1 t0 t1 a0 a1 n0 n1 v en tx = R
 have HR := am hR
 clear hR
 have HN := am hn
 clear hn
 go_enter Try.func41, Try.ntmps41
 go_wp2_with fail
 have HB := am (below_alloc (Below.refl w.heap.size w) (.cells #[.int .i64 i0, .int .i64 i1, .int .i64 1, .int .i64 t0, .int .i64 t1, .int .i64 a0, .int .i64 a1, .int .i64 n0, .int .i64 n1, .int .i64 v, .bool en, .string tx] 30))
 have BK := am (blk_new w (.cells #[.int .i64 i0, .int .i64 i1, .int .i64 1, .int .i64 t0, .int .i64 t1, .int .i64 a0, .int .i64 a1, .int .i64 n0, .int .i64 n1, .int .i64 v, .bool en, .string tx] 30))
 generalize w.alloc _ = w0 at HB BK ⊢
 generalize w.heap.size = g at BK ⊢
 have hx := blk_cell BK.out
 go_wp2_with (first
  | (go_at_call 61; refine (sv_any _ _ _).mono ?_; rintro e w1 ⟨rfl, hb⟩; have n0 := am (below_step HB.out hb); have n1 := am (blk_below BK.out hb); clear HB BK hx hb; have HB := n0; have BK := n1; clear n0 n1; have hx := blk_cell BK.out)
  | (go_at_call 62; refine (sr_any _ _ _ _ _ _ _ _ _ _ _ _ _ _ _ _).mono ?_; rintro e w1 ⟨rfl, hb⟩; have n0 := am (below_step HB.out hb); have n1 := am (blk_below BK.out hb); clear HB BK hx hb; have HB := n0; have BK := n1; clear n0 n1; have hx := blk_cell BK.out)
  | (go_at_call 63; refine (sz_any _ _ _).mono ?_; rintro e w1 ⟨rfl, hb⟩; have n0 := am (below_step HB.out hb); have n1 := am (blk_below BK.out hb); clear HB BK hx hb; have HB := n0; have BK := n1; clear n0 n1; have hx := blk_cell BK.out)
  | (go_at_call 64; refine (sn_any _ _ _ _).mono ?_; rintro e w1 ⟨rfl, hb⟩; have n0 := am (below_step HB.out hb); have n1 := am (blk_below BK.out hb); clear HB BK hx hb; have HB := n0; have BK := n1; clear n0 n1; have hx := blk_cell BK.out)
  | (go_at_call 65; refine (sw_any _ HN.out _).mono ?_; rintro e w1 ⟨rfl, hb⟩; have n0 := am (below_step HB.out hb); have n1 := am (blk_below BK.out hb); clear HB BK hx hb; have HB := n0; have BK := n1; clear n0 n1; have hx := blk_cell BK.out))
 all_goals
  go_ret
  refine ⟨?_, HB.out⟩
  rw [← HR.out]
  simp only [vrB_t, vrB_f] at *
  simp [vopB, emB, *]
set_option maxHeartbeats 4000000 in
set_option maxRecDepth 100000 in
theorem spec_validOp.k2 (i0 i1 t0 t1 a0 a1 n0 n1 v : Int) (en : Bool) (tx : ByteArray) (hn : tx.size ≤ 9223372036854775807) (w : World) (c1 : vst i0 i1 = true) :
  Calls Try.prog 41 #[.agg #[.int .i64 i0, .int .i64 i1, .int .i64 2, .int .i64 t0, .int .i64 t1, .int .i64 a0, .int .i64 a1, .int .i64 n0, .int .i64 n1, .int .i64 v, .bool en, .string tx]] w fun e w' => e = .returned (.bool (vopB i0 i1 2 t0 t1 a0 a1 n0 n1 v en tx)) ∧ Below w.heap.size w w' := by
 have hu45 := Try.underlying30
 have hu43 := Try.underlying28
 generalize hR : vopB i0 i1 2 t0 t1 a0 a1 n0 n1 v en tx = R
 have HR := am hR
 clear hR
 have HN := am hn
 clear hn
 go_enter Try.func41, Try.ntmps41
 go_wp2_with fail
 have HB := am (below_alloc (Below.refl w.heap.size w) (.cells #[.int .i64 i0, .int .i64 i1, .int .i64 2, .int .i64 t0, .int .i64 t1, .int .i64 a0, .int .i64 a1, .int .i64 n0, .int .i64 n1, .int .i64 v, .bool en, .string tx] 30))
 have BK := am (blk_new w (.cells #[.int .i64 i0, .int .i64 i1, .int .i64 2, .int .i64 t0, .int .i64 t1, .int .i64 a0, .int .i64 a1, .int .i64 n0, .int .i64 n1, .int .i64 v, .bool en, .string tx] 30))
 generalize w.alloc _ = w0 at HB BK ⊢
 generalize w.heap.size = g at BK ⊢
 have hx := blk_cell BK.out
 go_wp2_with (first
  | (go_at_call 61; refine (sv_any _ _ _).mono ?_; rintro e w1 ⟨rfl, hb⟩; have n0 := am (below_step HB.out hb); have n1 := am (blk_below BK.out hb); clear HB BK hx hb; have HB := n0; have BK := n1; clear n0 n1; have hx := blk_cell BK.out)
  | (go_at_call 62; refine (sr_any _ _ _ _ _ _ _ _ _ _ _ _ _ _ _ _).mono ?_; rintro e w1 ⟨rfl, hb⟩; have n0 := am (below_step HB.out hb); have n1 := am (blk_below BK.out hb); clear HB BK hx hb; have HB := n0; have BK := n1; clear n0 n1; have hx := blk_cell BK.out)
  | (go_at_call 63; refine (sz_any _ _ _).mono ?_; rintro e w1 ⟨rfl, hb⟩; have n0 := am (below_step HB.out hb); have n1 := am (blk_below BK.out hb); clear HB BK hx hb; have HB := n0; have BK := n1; clear n0 n1; have hx := blk_cell BK.out)
  | (go_at_call 64; refine (sn_any _ _ _ _).mono ?_; rintro e w1 ⟨rfl, hb⟩; have n0 := am (below_step HB.out hb); have n1 := am (blk_below BK.out hb); clear HB BK hx hb; have HB := n0; have BK := n1; clear n0 n1; have hx := blk_cell BK.out)
  | (go_at_call 65; refine (sw_any _ HN.out _).mono ?_; rintro e w1 ⟨rfl, hb⟩; have n0 := am (below_step HB.out hb); have n1 := am (blk_below BK.out hb); clear HB BK hx hb; have HB := n0; have BK := n1; clear n0 n1; have hx := blk_cell BK.out))
 all_goals
  go_ret
  refine ⟨?_, HB.out⟩
  rw [← HR.out]
  simp only [vrB_t, vrB_f] at *
  simp [vopB, emB, *]
set_option maxHeartbeats 4000000 in
set_option maxRecDepth 100000 in
theorem spec_validOp.k3 (i0 i1 t0 t1 a0 a1 n0 n1 v : Int) (en : Bool) (tx : ByteArray) (hn : tx.size ≤ 9223372036854775807) (w : World) (c1 : vst i0 i1 = true) :
  Calls Try.prog 41 #[.agg #[.int .i64 i0, .int .i64 i1, .int .i64 3, .int .i64 t0, .int .i64 t1, .int .i64 a0, .int .i64 a1, .int .i64 n0, .int .i64 n1, .int .i64 v, .bool en, .string tx]] w fun e w' => e = .returned (.bool (vopB i0 i1 3 t0 t1 a0 a1 n0 n1 v en tx)) ∧ Below w.heap.size w w' := by
 have hu45 := Try.underlying30
 have hu43 := Try.underlying28
 generalize hR : vopB i0 i1 3 t0 t1 a0 a1 n0 n1 v en tx = R
 have HR := am hR
 clear hR
 have HN := am hn
 clear hn
 go_enter Try.func41, Try.ntmps41
 go_wp2_with fail
 have HB := am (below_alloc (Below.refl w.heap.size w) (.cells #[.int .i64 i0, .int .i64 i1, .int .i64 3, .int .i64 t0, .int .i64 t1, .int .i64 a0, .int .i64 a1, .int .i64 n0, .int .i64 n1, .int .i64 v, .bool en, .string tx] 30))
 have BK := am (blk_new w (.cells #[.int .i64 i0, .int .i64 i1, .int .i64 3, .int .i64 t0, .int .i64 t1, .int .i64 a0, .int .i64 a1, .int .i64 n0, .int .i64 n1, .int .i64 v, .bool en, .string tx] 30))
 generalize w.alloc _ = w0 at HB BK ⊢
 generalize w.heap.size = g at BK ⊢
 have hx := blk_cell BK.out
 go_wp2_with (first
  | (go_at_call 61; refine (sv_any _ _ _).mono ?_; rintro e w1 ⟨rfl, hb⟩; have n0 := am (below_step HB.out hb); have n1 := am (blk_below BK.out hb); clear HB BK hx hb; have HB := n0; have BK := n1; clear n0 n1; have hx := blk_cell BK.out)
  | (go_at_call 62; refine (sr_any _ _ _ _ _ _ _ _ _ _ _ _ _ _ _ _).mono ?_; rintro e w1 ⟨rfl, hb⟩; have n0 := am (below_step HB.out hb); have n1 := am (blk_below BK.out hb); clear HB BK hx hb; have HB := n0; have BK := n1; clear n0 n1; have hx := blk_cell BK.out)
  | (go_at_call 63; refine (sz_any _ _ _).mono ?_; rintro e w1 ⟨rfl, hb⟩; have n0 := am (below_step HB.out hb); have n1 := am (blk_below BK.out hb); clear HB BK hx hb; have HB := n0; have BK := n1; clear n0 n1; have hx := blk_cell BK.out)
  | (go_at_call 64; refine (sn_any _ _ _ _).mono ?_; rintro e w1 ⟨rfl, hb⟩; have n0 := am (below_step HB.out hb); have n1 := am (blk_below BK.out hb); clear HB BK hx hb; have HB := n0; have BK := n1; clear n0 n1; have hx := blk_cell BK.out)
  | (go_at_call 65; refine (sw_any _ HN.out _).mono ?_; rintro e w1 ⟨rfl, hb⟩; have n0 := am (below_step HB.out hb); have n1 := am (blk_below BK.out hb); clear HB BK hx hb; have HB := n0; have BK := n1; clear n0 n1; have hx := blk_cell BK.out))
 all_goals
  go_ret
  refine ⟨?_, HB.out⟩
  rw [← HR.out]
  simp only [vrB_t, vrB_f] at *
  simp [vopB, emB, *]
set_option maxHeartbeats 4000000 in
set_option maxRecDepth 100000 in
theorem spec_validOp.k4 (i0 i1 t0 t1 a0 a1 n0 n1 v : Int) (en : Bool) (tx : ByteArray) (hn : tx.size ≤ 9223372036854775807) (w : World) (c1 : vst i0 i1 = true) :
  Calls Try.prog 41 #[.agg #[.int .i64 i0, .int .i64 i1, .int .i64 4, .int .i64 t0, .int .i64 t1, .int .i64 a0, .int .i64 a1, .int .i64 n0, .int .i64 n1, .int .i64 v, .bool en, .string tx]] w fun e w' => e = .returned (.bool (vopB i0 i1 4 t0 t1 a0 a1 n0 n1 v en tx)) ∧ Below w.heap.size w w' := by
 have hu45 := Try.underlying30
 have hu43 := Try.underlying28
 generalize hR : vopB i0 i1 4 t0 t1 a0 a1 n0 n1 v en tx = R
 have HR := am hR
 clear hR
 have HN := am hn
 clear hn
 go_enter Try.func41, Try.ntmps41
 go_wp2_with fail
 have HB := am (below_alloc (Below.refl w.heap.size w) (.cells #[.int .i64 i0, .int .i64 i1, .int .i64 4, .int .i64 t0, .int .i64 t1, .int .i64 a0, .int .i64 a1, .int .i64 n0, .int .i64 n1, .int .i64 v, .bool en, .string tx] 30))
 have BK := am (blk_new w (.cells #[.int .i64 i0, .int .i64 i1, .int .i64 4, .int .i64 t0, .int .i64 t1, .int .i64 a0, .int .i64 a1, .int .i64 n0, .int .i64 n1, .int .i64 v, .bool en, .string tx] 30))
 generalize w.alloc _ = w0 at HB BK ⊢
 generalize w.heap.size = g at BK ⊢
 have hx := blk_cell BK.out
 go_wp2_with (first
  | (go_at_call 61; refine (sv_any _ _ _).mono ?_; rintro e w1 ⟨rfl, hb⟩; have n0 := am (below_step HB.out hb); have n1 := am (blk_below BK.out hb); clear HB BK hx hb; have HB := n0; have BK := n1; clear n0 n1; have hx := blk_cell BK.out)
  | (go_at_call 62; refine (sr_any _ _ _ _ _ _ _ _ _ _ _ _ _ _ _ _).mono ?_; rintro e w1 ⟨rfl, hb⟩; have n0 := am (below_step HB.out hb); have n1 := am (blk_below BK.out hb); clear HB BK hx hb; have HB := n0; have BK := n1; clear n0 n1; have hx := blk_cell BK.out)
  | (go_at_call 63; refine (sz_any _ _ _).mono ?_; rintro e w1 ⟨rfl, hb⟩; have n0 := am (below_step HB.out hb); have n1 := am (blk_below BK.out hb); clear HB BK hx hb; have HB := n0; have BK := n1; clear n0 n1; have hx := blk_cell BK.out)
  | (go_at_call 64; refine (sn_any _ _ _ _).mono ?_; rintro e w1 ⟨rfl, hb⟩; have n0 := am (below_step HB.out hb); have n1 := am (blk_below BK.out hb); clear HB BK hx hb; have HB := n0; have BK := n1; clear n0 n1; have hx := blk_cell BK.out)
  | (go_at_call 65; refine (sw_any _ HN.out _).mono ?_; rintro e w1 ⟨rfl, hb⟩; have n0 := am (below_step HB.out hb); have n1 := am (blk_below BK.out hb); clear HB BK hx hb; have HB := n0; have BK := n1; clear n0 n1; have hx := blk_cell BK.out))
 all_goals
  go_ret
  refine ⟨?_, HB.out⟩
  rw [← HR.out]
  simp only [vrB_t, vrB_f] at *
  simp [vopB, emB, *]
set_option maxHeartbeats 4000000 in
set_option maxRecDepth 100000 in
theorem spec_validOp.k5 (i0 i1 t0 t1 a0 a1 n0 n1 v : Int) (en : Bool) (tx : ByteArray) (hn : tx.size ≤ 9223372036854775807) (w : World) (c1 : vst i0 i1 = true) :
  Calls Try.prog 41 #[.agg #[.int .i64 i0, .int .i64 i1, .int .i64 5, .int .i64 t0, .int .i64 t1, .int .i64 a0, .int .i64 a1, .int .i64 n0, .int .i64 n1, .int .i64 v, .bool en, .string tx]] w fun e w' => e = .returned (.bool (vopB i0 i1 5 t0 t1 a0 a1 n0 n1 v en tx)) ∧ Below w.heap.size w w' := by
 have hu45 := Try.underlying30
 have hu43 := Try.underlying28
 generalize hR : vopB i0 i1 5 t0 t1 a0 a1 n0 n1 v en tx = R
 have HR := am hR
 clear hR
 have HN := am hn
 clear hn
 go_enter Try.func41, Try.ntmps41
 go_wp2_with fail
 have HB := am (below_alloc (Below.refl w.heap.size w) (.cells #[.int .i64 i0, .int .i64 i1, .int .i64 5, .int .i64 t0, .int .i64 t1, .int .i64 a0, .int .i64 a1, .int .i64 n0, .int .i64 n1, .int .i64 v, .bool en, .string tx] 30))
 have BK := am (blk_new w (.cells #[.int .i64 i0, .int .i64 i1, .int .i64 5, .int .i64 t0, .int .i64 t1, .int .i64 a0, .int .i64 a1, .int .i64 n0, .int .i64 n1, .int .i64 v, .bool en, .string tx] 30))
 generalize w.alloc _ = w0 at HB BK ⊢
 generalize w.heap.size = g at BK ⊢
 have hx := blk_cell BK.out
 go_wp2_with (first
  | (go_at_call 61; refine (sv_any _ _ _).mono ?_; rintro e w1 ⟨rfl, hb⟩; have n0 := am (below_step HB.out hb); have n1 := am (blk_below BK.out hb); clear HB BK hx hb; have HB := n0; have BK := n1; clear n0 n1; have hx := blk_cell BK.out)
  | (go_at_call 62; refine (sr_any _ _ _ _ _ _ _ _ _ _ _ _ _ _ _ _).mono ?_; rintro e w1 ⟨rfl, hb⟩; have n0 := am (below_step HB.out hb); have n1 := am (blk_below BK.out hb); clear HB BK hx hb; have HB := n0; have BK := n1; clear n0 n1; have hx := blk_cell BK.out)
  | (go_at_call 63; refine (sz_any _ _ _).mono ?_; rintro e w1 ⟨rfl, hb⟩; have n0 := am (below_step HB.out hb); have n1 := am (blk_below BK.out hb); clear HB BK hx hb; have HB := n0; have BK := n1; clear n0 n1; have hx := blk_cell BK.out)
  | (go_at_call 64; refine (sn_any _ _ _ _).mono ?_; rintro e w1 ⟨rfl, hb⟩; have n0 := am (below_step HB.out hb); have n1 := am (blk_below BK.out hb); clear HB BK hx hb; have HB := n0; have BK := n1; clear n0 n1; have hx := blk_cell BK.out)
  | (go_at_call 65; refine (sw_any _ HN.out _).mono ?_; rintro e w1 ⟨rfl, hb⟩; have n0 := am (below_step HB.out hb); have n1 := am (blk_below BK.out hb); clear HB BK hx hb; have HB := n0; have BK := n1; clear n0 n1; have hx := blk_cell BK.out))
 all_goals
  go_ret
  refine ⟨?_, HB.out⟩
  rw [← HR.out]
  simp only [vrB_t, vrB_f] at *
  simp [vopB, emB, *]
set_option maxHeartbeats 4000000 in
set_option maxRecDepth 100000 in
theorem spec_validOp.k6 (i0 i1 t0 t1 a0 a1 n0 n1 v : Int) (en : Bool) (tx : ByteArray) (hn : tx.size ≤ 9223372036854775807) (w : World) (c1 : vst i0 i1 = true) :
  Calls Try.prog 41 #[.agg #[.int .i64 i0, .int .i64 i1, .int .i64 6, .int .i64 t0, .int .i64 t1, .int .i64 a0, .int .i64 a1, .int .i64 n0, .int .i64 n1, .int .i64 v, .bool en, .string tx]] w fun e w' => e = .returned (.bool (vopB i0 i1 6 t0 t1 a0 a1 n0 n1 v en tx)) ∧ Below w.heap.size w w' := by
 have hu45 := Try.underlying30
 have hu43 := Try.underlying28
 generalize hR : vopB i0 i1 6 t0 t1 a0 a1 n0 n1 v en tx = R
 have HR := am hR
 clear hR
 have HN := am hn
 clear hn
 go_enter Try.func41, Try.ntmps41
 go_wp2_with fail
 have HB := am (below_alloc (Below.refl w.heap.size w) (.cells #[.int .i64 i0, .int .i64 i1, .int .i64 6, .int .i64 t0, .int .i64 t1, .int .i64 a0, .int .i64 a1, .int .i64 n0, .int .i64 n1, .int .i64 v, .bool en, .string tx] 30))
 have BK := am (blk_new w (.cells #[.int .i64 i0, .int .i64 i1, .int .i64 6, .int .i64 t0, .int .i64 t1, .int .i64 a0, .int .i64 a1, .int .i64 n0, .int .i64 n1, .int .i64 v, .bool en, .string tx] 30))
 generalize w.alloc _ = w0 at HB BK ⊢
 generalize w.heap.size = g at BK ⊢
 have hx := blk_cell BK.out
 go_wp2_with (first
  | (go_at_call 61; refine (sv_any _ _ _).mono ?_; rintro e w1 ⟨rfl, hb⟩; have n0 := am (below_step HB.out hb); have n1 := am (blk_below BK.out hb); clear HB BK hx hb; have HB := n0; have BK := n1; clear n0 n1; have hx := blk_cell BK.out)
  | (go_at_call 62; refine (sr_any _ _ _ _ _ _ _ _ _ _ _ _ _ _ _ _).mono ?_; rintro e w1 ⟨rfl, hb⟩; have n0 := am (below_step HB.out hb); have n1 := am (blk_below BK.out hb); clear HB BK hx hb; have HB := n0; have BK := n1; clear n0 n1; have hx := blk_cell BK.out)
  | (go_at_call 63; refine (sz_any _ _ _).mono ?_; rintro e w1 ⟨rfl, hb⟩; have n0 := am (below_step HB.out hb); have n1 := am (blk_below BK.out hb); clear HB BK hx hb; have HB := n0; have BK := n1; clear n0 n1; have hx := blk_cell BK.out)
  | (go_at_call 64; refine (sn_any _ _ _ _).mono ?_; rintro e w1 ⟨rfl, hb⟩; have n0 := am (below_step HB.out hb); have n1 := am (blk_below BK.out hb); clear HB BK hx hb; have HB := n0; have BK := n1; clear n0 n1; have hx := blk_cell BK.out)
  | (go_at_call 65; refine (sw_any _ HN.out _).mono ?_; rintro e w1 ⟨rfl, hb⟩; have n0 := am (below_step HB.out hb); have n1 := am (blk_below BK.out hb); clear HB BK hx hb; have HB := n0; have BK := n1; clear n0 n1; have hx := blk_cell BK.out))
 all_goals
  go_ret
  refine ⟨?_, HB.out⟩
  rw [← HR.out]
  simp only [vrB_t, vrB_f] at *
  simp [vopB, emB, *]
set_option maxHeartbeats 4000000 in
set_option maxRecDepth 100000 in
theorem spec_validOp.k7 (i0 i1 t0 t1 a0 a1 n0 n1 v : Int) (en : Bool) (tx : ByteArray) (hn : tx.size ≤ 9223372036854775807) (w : World) (c1 : vst i0 i1 = true) :
  Calls Try.prog 41 #[.agg #[.int .i64 i0, .int .i64 i1, .int .i64 7, .int .i64 t0, .int .i64 t1, .int .i64 a0, .int .i64 a1, .int .i64 n0, .int .i64 n1, .int .i64 v, .bool en, .string tx]] w fun e w' => e = .returned (.bool (vopB i0 i1 7 t0 t1 a0 a1 n0 n1 v en tx)) ∧ Below w.heap.size w w' := by
 have hu45 := Try.underlying30
 have hu43 := Try.underlying28
 generalize hR : vopB i0 i1 7 t0 t1 a0 a1 n0 n1 v en tx = R
 have HR := am hR
 clear hR
 have HN := am hn
 clear hn
 go_enter Try.func41, Try.ntmps41
 go_wp2_with fail
 have HB := am (below_alloc (Below.refl w.heap.size w) (.cells #[.int .i64 i0, .int .i64 i1, .int .i64 7, .int .i64 t0, .int .i64 t1, .int .i64 a0, .int .i64 a1, .int .i64 n0, .int .i64 n1, .int .i64 v, .bool en, .string tx] 30))
 have BK := am (blk_new w (.cells #[.int .i64 i0, .int .i64 i1, .int .i64 7, .int .i64 t0, .int .i64 t1, .int .i64 a0, .int .i64 a1, .int .i64 n0, .int .i64 n1, .int .i64 v, .bool en, .string tx] 30))
 generalize w.alloc _ = w0 at HB BK ⊢
 generalize w.heap.size = g at BK ⊢
 have hx := blk_cell BK.out
 go_wp2_with (first
  | (go_at_call 61; refine (sv_any _ _ _).mono ?_; rintro e w1 ⟨rfl, hb⟩; have n0 := am (below_step HB.out hb); have n1 := am (blk_below BK.out hb); clear HB BK hx hb; have HB := n0; have BK := n1; clear n0 n1; have hx := blk_cell BK.out)
  | (go_at_call 62; refine (sr_any _ _ _ _ _ _ _ _ _ _ _ _ _ _ _ _).mono ?_; rintro e w1 ⟨rfl, hb⟩; have n0 := am (below_step HB.out hb); have n1 := am (blk_below BK.out hb); clear HB BK hx hb; have HB := n0; have BK := n1; clear n0 n1; have hx := blk_cell BK.out)
  | (go_at_call 63; refine (sz_any _ _ _).mono ?_; rintro e w1 ⟨rfl, hb⟩; have n0 := am (below_step HB.out hb); have n1 := am (blk_below BK.out hb); clear HB BK hx hb; have HB := n0; have BK := n1; clear n0 n1; have hx := blk_cell BK.out)
  | (go_at_call 64; refine (sn_any _ _ _ _).mono ?_; rintro e w1 ⟨rfl, hb⟩; have n0 := am (below_step HB.out hb); have n1 := am (blk_below BK.out hb); clear HB BK hx hb; have HB := n0; have BK := n1; clear n0 n1; have hx := blk_cell BK.out)
  | (go_at_call 65; refine (sw_any _ HN.out _).mono ?_; rintro e w1 ⟨rfl, hb⟩; have n0 := am (below_step HB.out hb); have n1 := am (blk_below BK.out hb); clear HB BK hx hb; have HB := n0; have BK := n1; clear n0 n1; have hx := blk_cell BK.out))
 all_goals
  go_ret
  refine ⟨?_, HB.out⟩
  rw [← HR.out]
  simp only [vrB_t, vrB_f] at *
  simp [vopB, emB, *]
set_option maxHeartbeats 4000000 in
set_option maxRecDepth 100000 in
theorem spec_validOp.k8 (i0 i1 t0 t1 a0 a1 n0 n1 v : Int) (en : Bool) (tx : ByteArray) (hn : tx.size ≤ 9223372036854775807) (w : World) (c1 : vst i0 i1 = true) :
  Calls Try.prog 41 #[.agg #[.int .i64 i0, .int .i64 i1, .int .i64 8, .int .i64 t0, .int .i64 t1, .int .i64 a0, .int .i64 a1, .int .i64 n0, .int .i64 n1, .int .i64 v, .bool en, .string tx]] w fun e w' => e = .returned (.bool (vopB i0 i1 8 t0 t1 a0 a1 n0 n1 v en tx)) ∧ Below w.heap.size w w' := by
 have hu45 := Try.underlying30
 have hu43 := Try.underlying28
 generalize hR : vopB i0 i1 8 t0 t1 a0 a1 n0 n1 v en tx = R
 have HR := am hR
 clear hR
 have HN := am hn
 clear hn
 go_enter Try.func41, Try.ntmps41
 go_wp2_with fail
 have HB := am (below_alloc (Below.refl w.heap.size w) (.cells #[.int .i64 i0, .int .i64 i1, .int .i64 8, .int .i64 t0, .int .i64 t1, .int .i64 a0, .int .i64 a1, .int .i64 n0, .int .i64 n1, .int .i64 v, .bool en, .string tx] 30))
 have BK := am (blk_new w (.cells #[.int .i64 i0, .int .i64 i1, .int .i64 8, .int .i64 t0, .int .i64 t1, .int .i64 a0, .int .i64 a1, .int .i64 n0, .int .i64 n1, .int .i64 v, .bool en, .string tx] 30))
 generalize w.alloc _ = w0 at HB BK ⊢
 generalize w.heap.size = g at BK ⊢
 have hx := blk_cell BK.out
 go_wp2_with (first
  | (go_at_call 61; refine (sv_any _ _ _).mono ?_; rintro e w1 ⟨rfl, hb⟩; have n0 := am (below_step HB.out hb); have n1 := am (blk_below BK.out hb); clear HB BK hx hb; have HB := n0; have BK := n1; clear n0 n1; have hx := blk_cell BK.out)
  | (go_at_call 62; refine (sr_any _ _ _ _ _ _ _ _ _ _ _ _ _ _ _ _).mono ?_; rintro e w1 ⟨rfl, hb⟩; have n0 := am (below_step HB.out hb); have n1 := am (blk_below BK.out hb); clear HB BK hx hb; have HB := n0; have BK := n1; clear n0 n1; have hx := blk_cell BK.out)
  | (go_at_call 63; refine (sz_any _ _ _).mono ?_; rintro e w1 ⟨rfl, hb⟩; have n0 := am (below_step HB.out hb); have n1 := am (blk_below BK.out hb); clear HB BK hx hb; have HB := n0; have BK := n1; clear n0 n1; have hx := blk_cell BK.out)
  | (go_at_call 64; refine (sn_any _ _ _ _).mono ?_; rintro e w1 ⟨rfl, hb⟩; have n0 := am (below_step HB.out hb); have n1 := am (blk_below BK.out hb); clear HB BK hx hb; have HB := n0; have BK := n1; clear n0 n1; have hx := blk_cell BK.out)
  | (go_at_call 65; refine (sw_any _ HN.out _).mono ?_; rintro e w1 ⟨rfl, hb⟩; have n0 := am (below_step HB.out hb); have n1 := am (blk_below BK.out hb); clear HB BK hx hb; have HB := n0; have BK := n1; clear n0 n1; have hx := blk_cell BK.out))
 all_goals
  go_ret
  refine ⟨?_, HB.out⟩
  rw [← HR.out]
  simp only [vrB_t, vrB_f] at *
  simp [vopB, emB, *]
set_option maxHeartbeats 4000000 in
set_option maxRecDepth 100000 in
theorem spec_validOp.k9 (i0 i1 t0 t1 a0 a1 n0 n1 v : Int) (en : Bool) (tx : ByteArray) (hn : tx.size ≤ 9223372036854775807) (w : World) (c1 : vst i0 i1 = true) :
  Calls Try.prog 41 #[.agg #[.int .i64 i0, .int .i64 i1, .int .i64 9, .int .i64 t0, .int .i64 t1, .int .i64 a0, .int .i64 a1, .int .i64 n0, .int .i64 n1, .int .i64 v, .bool en, .string tx]] w fun e w' => e = .returned (.bool (vopB i0 i1 9 t0 t1 a0 a1 n0 n1 v en tx)) ∧ Below w.heap.size w w' := by
 have hu45 := Try.underlying30
 have hu43 := Try.underlying28
 generalize hR : vopB i0 i1 9 t0 t1 a0 a1 n0 n1 v en tx = R
 have HR := am hR
 clear hR
 have HN := am hn
 clear hn
 go_enter Try.func41, Try.ntmps41
 go_wp2_with fail
 have HB := am (below_alloc (Below.refl w.heap.size w) (.cells #[.int .i64 i0, .int .i64 i1, .int .i64 9, .int .i64 t0, .int .i64 t1, .int .i64 a0, .int .i64 a1, .int .i64 n0, .int .i64 n1, .int .i64 v, .bool en, .string tx] 30))
 have BK := am (blk_new w (.cells #[.int .i64 i0, .int .i64 i1, .int .i64 9, .int .i64 t0, .int .i64 t1, .int .i64 a0, .int .i64 a1, .int .i64 n0, .int .i64 n1, .int .i64 v, .bool en, .string tx] 30))
 generalize w.alloc _ = w0 at HB BK ⊢
 generalize w.heap.size = g at BK ⊢
 have hx := blk_cell BK.out
 go_wp2_with (first
  | (go_at_call 61; refine (sv_any _ _ _).mono ?_; rintro e w1 ⟨rfl, hb⟩; have n0 := am (below_step HB.out hb); have n1 := am (blk_below BK.out hb); clear HB BK hx hb; have HB := n0; have BK := n1; clear n0 n1; have hx := blk_cell BK.out)
  | (go_at_call 62; refine (sr_any _ _ _ _ _ _ _ _ _ _ _ _ _ _ _ _).mono ?_; rintro e w1 ⟨rfl, hb⟩; have n0 := am (below_step HB.out hb); have n1 := am (blk_below BK.out hb); clear HB BK hx hb; have HB := n0; have BK := n1; clear n0 n1; have hx := blk_cell BK.out)
  | (go_at_call 63; refine (sz_any _ _ _).mono ?_; rintro e w1 ⟨rfl, hb⟩; have n0 := am (below_step HB.out hb); have n1 := am (blk_below BK.out hb); clear HB BK hx hb; have HB := n0; have BK := n1; clear n0 n1; have hx := blk_cell BK.out)
  | (go_at_call 64; refine (sn_any _ _ _ _).mono ?_; rintro e w1 ⟨rfl, hb⟩; have n0 := am (below_step HB.out hb); have n1 := am (blk_below BK.out hb); clear HB BK hx hb; have HB := n0; have BK := n1; clear n0 n1; have hx := blk_cell BK.out)
  | (go_at_call 65; refine (sw_any _ HN.out _).mono ?_; rintro e w1 ⟨rfl, hb⟩; have n0 := am (below_step HB.out hb); have n1 := am (blk_below BK.out hb); clear HB BK hx hb; have HB := n0; have BK := n1; clear n0 n1; have hx := blk_cell BK.out))
 all_goals
  go_ret
  refine ⟨?_, HB.out⟩
  rw [← HR.out]
  simp only [vrB_t, vrB_f] at *
  simp [vopB, emB, *]
set_option maxHeartbeats 4000000 in
set_option maxRecDepth 100000 in
theorem spec_validOp.k10 (i0 i1 t0 t1 a0 a1 n0 n1 v : Int) (en : Bool) (tx : ByteArray) (hn : tx.size ≤ 9223372036854775807) (w : World) (c1 : vst i0 i1 = true) :
  Calls Try.prog 41 #[.agg #[.int .i64 i0, .int .i64 i1, .int .i64 10, .int .i64 t0, .int .i64 t1, .int .i64 a0, .int .i64 a1, .int .i64 n0, .int .i64 n1, .int .i64 v, .bool en, .string tx]] w fun e w' => e = .returned (.bool (vopB i0 i1 10 t0 t1 a0 a1 n0 n1 v en tx)) ∧ Below w.heap.size w w' := by
 have hu45 := Try.underlying30
 have hu43 := Try.underlying28
 generalize hR : vopB i0 i1 10 t0 t1 a0 a1 n0 n1 v en tx = R
 have HR := am hR
 clear hR
 have HN := am hn
 clear hn
 go_enter Try.func41, Try.ntmps41
 go_wp2_with fail
 have HB := am (below_alloc (Below.refl w.heap.size w) (.cells #[.int .i64 i0, .int .i64 i1, .int .i64 10, .int .i64 t0, .int .i64 t1, .int .i64 a0, .int .i64 a1, .int .i64 n0, .int .i64 n1, .int .i64 v, .bool en, .string tx] 30))
 have BK := am (blk_new w (.cells #[.int .i64 i0, .int .i64 i1, .int .i64 10, .int .i64 t0, .int .i64 t1, .int .i64 a0, .int .i64 a1, .int .i64 n0, .int .i64 n1, .int .i64 v, .bool en, .string tx] 30))
 generalize w.alloc _ = w0 at HB BK ⊢
 generalize w.heap.size = g at BK ⊢
 have hx := blk_cell BK.out
 go_wp2_with (first
  | (go_at_call 61; refine (sv_any _ _ _).mono ?_; rintro e w1 ⟨rfl, hb⟩; have n0 := am (below_step HB.out hb); have n1 := am (blk_below BK.out hb); clear HB BK hx hb; have HB := n0; have BK := n1; clear n0 n1; have hx := blk_cell BK.out)
  | (go_at_call 62; refine (sr_any _ _ _ _ _ _ _ _ _ _ _ _ _ _ _ _).mono ?_; rintro e w1 ⟨rfl, hb⟩; have n0 := am (below_step HB.out hb); have n1 := am (blk_below BK.out hb); clear HB BK hx hb; have HB := n0; have BK := n1; clear n0 n1; have hx := blk_cell BK.out)
  | (go_at_call 63; refine (sz_any _ _ _).mono ?_; rintro e w1 ⟨rfl, hb⟩; have n0 := am (below_step HB.out hb); have n1 := am (blk_below BK.out hb); clear HB BK hx hb; have HB := n0; have BK := n1; clear n0 n1; have hx := blk_cell BK.out)
  | (go_at_call 64; refine (sn_any _ _ _ _).mono ?_; rintro e w1 ⟨rfl, hb⟩; have n0 := am (below_step HB.out hb); have n1 := am (blk_below BK.out hb); clear HB BK hx hb; have HB := n0; have BK := n1; clear n0 n1; have hx := blk_cell BK.out)
  | (go_at_call 65; refine (sw_any _ HN.out _).mono ?_; rintro e w1 ⟨rfl, hb⟩; have n0 := am (below_step HB.out hb); have n1 := am (blk_below BK.out hb); clear HB BK hx hb; have HB := n0; have BK := n1; clear n0 n1; have hx := blk_cell BK.out))
 all_goals
  go_ret
  refine ⟨?_, HB.out⟩
  rw [← HR.out]
  simp only [vrB_t, vrB_f] at *
  simp [vopB, emB, *]
set_option maxHeartbeats 4000000 in
set_option maxRecDepth 100000 in
theorem spec_validOp.k0 (i0 i1 kd t0 t1 a0 a1 n0 n1 v : Int) (en : Bool) (tx : ByteArray) (hn : tx.size ≤ 9223372036854775807) (w : World) (c1 : vst i0 i1 = false) :
  Calls Try.prog 41 #[.agg #[.int .i64 i0, .int .i64 i1, .int .i64 kd, .int .i64 t0, .int .i64 t1, .int .i64 a0, .int .i64 a1, .int .i64 n0, .int .i64 n1, .int .i64 v, .bool en, .string tx]] w fun e w' => e = .returned (.bool (vopB i0 i1 kd t0 t1 a0 a1 n0 n1 v en tx)) ∧ Below w.heap.size w w' := by
 have hu45 := Try.underlying30
 have hu43 := Try.underlying28
 generalize hR : vopB i0 i1 kd t0 t1 a0 a1 n0 n1 v en tx = R
 have HR := am hR
 clear hR
 have HN := am hn
 clear hn
 go_enter Try.func41, Try.ntmps41
 go_wp2_with fail
 have HB := am (below_alloc (Below.refl w.heap.size w) (.cells #[.int .i64 i0, .int .i64 i1, .int .i64 kd, .int .i64 t0, .int .i64 t1, .int .i64 a0, .int .i64 a1, .int .i64 n0, .int .i64 n1, .int .i64 v, .bool en, .string tx] 30))
 have BK := am (blk_new w (.cells #[.int .i64 i0, .int .i64 i1, .int .i64 kd, .int .i64 t0, .int .i64 t1, .int .i64 a0, .int .i64 a1, .int .i64 n0, .int .i64 n1, .int .i64 v, .bool en, .string tx] 30))
 generalize w.alloc _ = w0 at HB BK ⊢
 generalize w.heap.size = g at BK ⊢
 have hx := blk_cell BK.out
 go_wp2_with (first
  | (go_at_call 61; refine (sv_any _ _ _).mono ?_; rintro e w1 ⟨rfl, hb⟩; have n0 := am (below_step HB.out hb); have n1 := am (blk_below BK.out hb); clear HB BK hx hb; have HB := n0; have BK := n1; clear n0 n1; have hx := blk_cell BK.out)
  | (go_at_call 62; refine (sr_any _ _ _ _ _ _ _ _ _ _ _ _ _ _ _ _).mono ?_; rintro e w1 ⟨rfl, hb⟩; have n0 := am (below_step HB.out hb); have n1 := am (blk_below BK.out hb); clear HB BK hx hb; have HB := n0; have BK := n1; clear n0 n1; have hx := blk_cell BK.out)
  | (go_at_call 63; refine (sz_any _ _ _).mono ?_; rintro e w1 ⟨rfl, hb⟩; have n0 := am (below_step HB.out hb); have n1 := am (blk_below BK.out hb); clear HB BK hx hb; have HB := n0; have BK := n1; clear n0 n1; have hx := blk_cell BK.out)
  | (go_at_call 64; refine (sn_any _ _ _ _).mono ?_; rintro e w1 ⟨rfl, hb⟩; have n0 := am (below_step HB.out hb); have n1 := am (blk_below BK.out hb); clear HB BK hx hb; have HB := n0; have BK := n1; clear n0 n1; have hx := blk_cell BK.out)
  | (go_at_call 65; refine (sw_any _ HN.out _).mono ?_; rintro e w1 ⟨rfl, hb⟩; have n0 := am (below_step HB.out hb); have n1 := am (blk_below BK.out hb); clear HB BK hx hb; have HB := n0; have BK := n1; clear n0 n1; have hx := blk_cell BK.out))
 all_goals
  go_ret
  refine ⟨?_, HB.out⟩
  rw [← HR.out]
  simp only [vrB_t, vrB_f] at *
  simp [vopB, emB, *]
set_option maxHeartbeats 4000000 in
set_option maxRecDepth 100000 in
theorem spec_validOp.kx (i0 i1 kd t0 t1 a0 a1 n0 n1 v : Int) (en : Bool) (tx : ByteArray) (hn : tx.size ≤ 9223372036854775807) (w : World) (c1 : vst i0 i1 = true) (h1 : (kd == 1) = false) (h2 : (kd == 2) = false) (h3 : (kd == 3) = false) (h4 : (kd == 4) = false) (h5 : (kd == 5) = false) (h6 : (kd == 6) = false) (h7 : (kd == 7) = false) (h8 : (kd == 8) = false) (h9 : (kd == 9) = false) (h10 : (kd == 10) = false) :
  Calls Try.prog 41 #[.agg #[.int .i64 i0, .int .i64 i1, .int .i64 kd, .int .i64 t0, .int .i64 t1, .int .i64 a0, .int .i64 a1, .int .i64 n0, .int .i64 n1, .int .i64 v, .bool en, .string tx]] w fun e w' => e = .returned (.bool (vopB i0 i1 kd t0 t1 a0 a1 n0 n1 v en tx)) ∧ Below w.heap.size w w' := by
 have hu45 := Try.underlying30
 have hu43 := Try.underlying28
 generalize hR : vopB i0 i1 kd t0 t1 a0 a1 n0 n1 v en tx = R
 have HR := am hR
 clear hR
 have HN := am hn
 clear hn
 go_enter Try.func41, Try.ntmps41
 go_wp2_with fail
 have HB := am (below_alloc (Below.refl w.heap.size w) (.cells #[.int .i64 i0, .int .i64 i1, .int .i64 kd, .int .i64 t0, .int .i64 t1, .int .i64 a0, .int .i64 a1, .int .i64 n0, .int .i64 n1, .int .i64 v, .bool en, .string tx] 30))
 have BK := am (blk_new w (.cells #[.int .i64 i0, .int .i64 i1, .int .i64 kd, .int .i64 t0, .int .i64 t1, .int .i64 a0, .int .i64 a1, .int .i64 n0, .int .i64 n1, .int .i64 v, .bool en, .string tx] 30))
 generalize w.alloc _ = w0 at HB BK ⊢
 generalize w.heap.size = g at BK ⊢
 have hx := blk_cell BK.out
 go_wp2_with (first
  | (go_at_call 61; refine (sv_any _ _ _).mono ?_; rintro e w1 ⟨rfl, hb⟩; have n0 := am (below_step HB.out hb); have n1 := am (blk_below BK.out hb); clear HB BK hx hb; have HB := n0; have BK := n1; clear n0 n1; have hx := blk_cell BK.out)
  | (go_at_call 62; refine (sr_any _ _ _ _ _ _ _ _ _ _ _ _ _ _ _ _).mono ?_; rintro e w1 ⟨rfl, hb⟩; have n0 := am (below_step HB.out hb); have n1 := am (blk_below BK.out hb); clear HB BK hx hb; have HB := n0; have BK := n1; clear n0 n1; have hx := blk_cell BK.out)
  | (go_at_call 63; refine (sz_any _ _ _).mono ?_; rintro e w1 ⟨rfl, hb⟩; have n0 := am (below_step HB.out hb); have n1 := am (blk_below BK.out hb); clear HB BK hx hb; have HB := n0; have BK := n1; clear n0 n1; have hx := blk_cell BK.out)
  | (go_at_call 64; refine (sn_any _ _ _ _).mono ?_; rintro e w1 ⟨rfl, hb⟩; have n0 := am (below_step HB.out hb); have n1 := am (blk_below BK.out hb); clear HB BK hx hb; have HB := n0; have BK := n1; clear n0 n1; have hx := blk_cell BK.out)
  | (go_at_call 65; refine (sw_any _ HN.out _).mono ?_; rintro e w1 ⟨rfl, hb⟩; have n0 := am (below_step HB.out hb); have n1 := am (blk_below BK.out hb); clear HB BK hx hb; have HB := n0; have BK := n1; clear n0 n1; have hx := blk_cell BK.out))
 all_goals
  go_ret
  refine ⟨?_, HB.out⟩
  rw [← HR.out]
  simp only [vrB_t, vrB_f] at *
  have e : ∀ m : Int, (kd == m) = false → ¬ kd = m := fun m h => by simpa using h
  simp [vopB, e _ h1, e _ h2, e _ h3, e _ h4, e _ h5, e _ h6, e _ h7, e _ h8, e _ h9, e _ h10]
def spec_validOp.f (a0_0 a0_1 a0_2 a0_3 a0_4 a0_5 a0_6 a0_7 a0_8 a0_9 : Int) (a0_10 : Bool) (a0_11 : ByteArray) : Option (Bool) := if a0_11.size ≤ 9223372036854775807 then some (vopB a0_0 a0_1 a0_2 a0_3 a0_4 a0_5 a0_6 a0_7 a0_8 a0_9 a0_10 a0_11) else none
theorem spec_validOp.calls (a0_0 a0_1 a0_2 a0_3 a0_4 a0_5 a0_6 a0_7 a0_8 a0_9 : Int) (a0_10 : Bool) (a0_11 : ByteArray) (r : Bool) (w : World) (h : spec_validOp.f a0_0 a0_1 a0_2 a0_3 a0_4 a0_5 a0_6 a0_7 a0_8 a0_9 a0_10 a0_11 = some r) :
  Calls Try.prog 41 #[.agg #[.int .i64 a0_0, .int .i64 a0_1, .int .i64 a0_2, .int .i64 a0_3, .int .i64 a0_4, .int .i64 a0_5, .int .i64 a0_6, .int .i64 a0_7, .int .i64 a0_8, .int .i64 a0_9, .bool a0_10, .string a0_11]] w fun e w' => e = .returned (.bool r) ∧ Below w.heap.size w w' := by
 unfold spec_validOp.f at h
 by_cases hn : a0_11.size ≤ 9223372036854775807
 ·rw [if_pos hn] at h
  obtain rfl := Option.some.inj h
  by_cases c1 : vst a0_0 a0_1 = true
  ·by_cases k1 : a0_2 = 1
   ·subst k1; exact spec_validOp.k1 _ _ _ _ _ _ _ _ _ _ _ hn w c1
   by_cases k2 : a0_2 = 2
   ·subst k2; exact spec_validOp.k2 _ _ _ _ _ _ _ _ _ _ _ hn w c1
   by_cases k3 : a0_2 = 3
   ·subst k3; exact spec_validOp.k3 _ _ _ _ _ _ _ _ _ _ _ hn w c1
   by_cases k4 : a0_2 = 4
   ·subst k4; exact spec_validOp.k4 _ _ _ _ _ _ _ _ _ _ _ hn w c1
   by_cases k5 : a0_2 = 5
   ·subst k5; exact spec_validOp.k5 _ _ _ _ _ _ _ _ _ _ _ hn w c1
   by_cases k6 : a0_2 = 6
   ·subst k6; exact spec_validOp.k6 _ _ _ _ _ _ _ _ _ _ _ hn w c1
   by_cases k7 : a0_2 = 7
   ·subst k7; exact spec_validOp.k7 _ _ _ _ _ _ _ _ _ _ _ hn w c1
   by_cases k8 : a0_2 = 8
   ·subst k8; exact spec_validOp.k8 _ _ _ _ _ _ _ _ _ _ _ hn w c1
   by_cases k9 : a0_2 = 9
   ·subst k9; exact spec_validOp.k9 _ _ _ _ _ _ _ _ _ _ _ hn w c1
   by_cases k10 : a0_2 = 10
   ·subst k10; exact spec_validOp.k10 _ _ _ _ _ _ _ _ _ _ _ hn w c1
   exact spec_validOp.kx _ _ _ _ _ _ _ _ _ _ _ _ hn w c1 (by simpa using k1) (by simpa using k2) (by simpa using k3) (by simpa using k4) (by simpa using k5) (by simpa using k6) (by simpa using k7) (by simpa using k8) (by simpa using k9) (by simpa using k10)
  ·exact spec_validOp.k0 _ _ _ _ _ _ _ _ _ _ _ _ hn w (by simpa using c1)
 ·rw [if_neg hn] at h
  cases h

end Go.Proofs.Ytomigiindmojkaa.QJ

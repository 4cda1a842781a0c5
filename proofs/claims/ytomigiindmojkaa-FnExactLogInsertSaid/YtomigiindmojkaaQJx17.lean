/- A call of each function named here does what the Lean function of that name says. Conditions: each theorem's premises. Printed by the kit, repaired by a program, joined with texts by hand. -/
import Derived.Test.YtomigiindmojkaaQJx0
import Derived.Test.YtomigiindmojkaaQJx1
import Derived.Test.YtomigiindmojkaaQJx2
import Derived.Test.YtomigiindmojkaaQJx16
namespace Go.Proofs.Ytomigiindmojkaa.QJ
open Go.Proofs.Ytomigiindmojkaa.Base Go.RowKit Go.Proofs.YtomigiindmojkaaW.PrintWords Go.Proofs.YtomigiindmojkaaW.PrintLast Go.Proofs.YtomigiindmojkaaW.PrintMore
attribute [local go_sem] max2_int min2_int max_two min_two max_three min_three max_four min_four   -- for this text's walks alone
set_option linter.unusedVariables false
set_option linter.unusedSimpArgs false

attribute [local go_sem high] eqA28 eqA30
/-! ### impl_ValidOp: function 14 -/
theorem mq_impl_ValidStamp (a b : Int) : impl_ValidStamp.f a b = some (vst a b) := by
 unfold impl_ValidStamp.f vst impl_isAuthor.f
 by_cases h1 : 1 ≤ a <;> by_cases h2 : a ≤ 99 <;> by_cases h3 : 0 ≤ b <;> by_cases h4 : b < 3 <;> simp [h1, h2, h3, h4] <;> omega
theorem mq_impl_StampLess (a b c d : Int) : impl_StampLess.f a b c d = some (slt a b c d) := by
 unfold impl_StampLess.f slt
 by_cases h : a < c
 ·simp [h]
 ·by_cases h' : a = c <;> simp [h, h']
theorem mq_impl_isWord_l0 (s : ByteArray) (hn : s.size ≤ 9223372036854775807) : ∀ (d i : Nat), i + d = s.size → Ev (fun k => impl_isWord.l0 k s (i : Int)) (((bytesOf s).drop i).all (fun x => decide (97 ≤ x ∧ x ≤ 122)) && decide (1 ≤ s.size ∧ s.size ≤ 8)) := by
 have hbl := bytesOf_length s
 intro d
 induction d with
 | zero =>
  intro i hi
  rw [List.drop_of_length_le (by omega), List.all_nil, Bool.true_and]
  refine Ev.step (fun _ => rfl) (evElse (by omega) ?_)
  by_cases h : 1 ≤ s.size
  ·exact evIf (by omega) (evSome (by rw [Bool.eq_iff_iff]; simp only [decide_eq_true_eq]; omega))
  ·exact evElse (by omega) (evSome (by rw [eq_comm, decide_eq_false_iff_not]; omega))
 | succ d ih =>
  intro i hi
  have e : bt s (i : Int) = (bytesOf s)[i]'(by omega) := by rw [← rd_bytesOf, rdAt _ _ (by omega)]
  rw [dropCons _ i (by omega), List.all_cons]
  refine Ev.step (fun _ => rfl) (evIf (by omega) (evIf (by omega) ?_))
  rw [e, show wrap64 ((i : Int) + 1) = ((i + 1 : Nat) : Int) from by rw [wrapId (by omega) (by omega)]; omega]
  generalize (bytesOf s)[i]'(by omega) = x
  by_cases h0 : x < 97
  ·refine evIf h0 (evSome ?_)
   rw [show decide (97 ≤ x ∧ x ≤ 122) = false from by rw [decide_eq_false_iff_not]; omega]; rfl
  refine evElse h0 ?_
  by_cases h1 : x > 122
  ·refine evIf h1 (evSome ?_)
   rw [show decide (97 ≤ x ∧ x ≤ 122) = false from by rw [decide_eq_false_iff_not]; omega]; rfl
  ·refine evElse h1 (evEq (ih (i + 1) (by omega)) ?_)
   rw [show decide (97 ≤ x ∧ x ≤ 122) = true from by rw [decide_eq_true_iff]; omega, Bool.true_and]
theorem iv_any (a b : Int) (w : World) : Calls Try.prog 44 #[.agg #[.int .i64 a, .int .i64 b]] w fun e w' => e = .returned (.bool (vst a b)) ∧ Below w.heap.size w w' := impl_ValidStamp.calls a b _ w (mq_impl_ValidStamp a b)
theorem il_any (a b c d : Int) (w : World) : Calls Try.prog 45 #[.agg #[.int .i64 a, .int .i64 b], .agg #[.int .i64 c, .int .i64 d]] w fun e w' => e = .returned (.bool (slt a b c d)) ∧ Below w.heap.size w w' := impl_StampLess.calls a b c d _ w (mq_impl_StampLess a b c d)
theorem iw_any (s : ByteArray) (hn : s.size ≤ 9223372036854775807) (w : World) : Calls Try.prog 47 #[.string s] w fun e w' => e = .returned (.bool (wordB s)) ∧ Below w.heap.size w w' := by
 obtain ⟨k, hk⟩ := (mq_impl_isWord_l0 s hn s.size 0 (by omega)).rounds
 exact (impl_isWord.calls k s _ w hk).mono fun _ _ h => ⟨h.1, h.2.below⟩
set_option maxHeartbeats 2000000 in
set_option maxRecDepth 100000 in
theorem ref_any (t0 t1 i0 i1 : Int) (rest : List Value) (g : Nat) (w : World) (BK0 : w.heap[g]? = some (.cells ⟨.int .i64 i0 :: .int .i64 i1 :: rest⟩ 30 (0, 0))) :
  Calls Try.prog 43 #[.agg #[.int .i64 t0, .int .i64 t1], .pointer (some ⟨g, 0, none⟩)] w fun e w' => e = .returned (.bool (refB i0 i1 t0 t1)) ∧ Below w.heap.size w w' := by
 have hu45 := Try.underlying30
 have hu43 := Try.underlying28
 have BK := am BK0
 clear BK0
 go_enter Try.func43, Try.ntmps43
 go_wp2_with fail
 have HB := am (below_alloc (Below.refl w.heap.size w) (.cells #[.int .i64 t0, .int .i64 t1] 28))
 have BL := am (blk_new w (.cells #[.int .i64 t0, .int .i64 t1] 28))
 replace BK := am (blk_below BK.out (below_alloc (Below.refl w.heap.size w) (.cells #[.int .i64 t0, .int .i64 t1] 28)))
 generalize w.alloc _ = w0 at HB BL BK ⊢
 generalize w.heap.size = gl at BL ⊢
 have hx := blk_cell BL.out
 have hy := blk_cell BK.out
 go_wp2_with (first
  | (go_at_call 44; refine (iv_any _ _ _).mono ?_; rintro e w1 ⟨rfl, hb⟩; have q0 := am (below_step HB.out hb); have q1 := am (blk_below BK.out hb); have q2 := am (blk_below BL.out hb); clear HB BK BL hx hy hb; have HB := q0; have BK := q1; have BL := q2; clear q0 q1 q2; have hx := blk_cell BL.out; have hy := blk_cell BK.out)
  | (go_at_call 45; refine (il_any _ _ _ _ _).mono ?_; rintro e w1 ⟨rfl, hb⟩; have q0 := am (below_step HB.out hb); have q1 := am (blk_below BK.out hb); have q2 := am (blk_below BL.out hb); clear HB BK BL hx hy hb; have HB := q0; have BK := q1; have BL := q2; clear q0 q1 q2; have hx := blk_cell BL.out; have hy := blk_cell BK.out))
 all_goals
  go_ret
  refine ⟨?_, HB.out⟩
  simp [refB, *]
set_option maxHeartbeats 2000000 in
set_option maxRecDepth 100000 in
theorem some_any (t0 t1 i0 i1 : Int) (rest : List Value) (g g1 : Nat) (w : World) (BK0 : w.heap[g]? = some (.cells ⟨.int .i64 i0 :: .int .i64 i1 :: rest⟩ 30 (0, 0))) (FK0 : w.heap[g1]? = some (.cells #[.func (Fn.func 43) #[] #[.pointer (some ⟨g, 0, none⟩)]] 58 (0, 0))) :
  Calls Try.prog 46 #[.agg #[.int .i64 t0, .int .i64 t1], .pointer (some ⟨g1, 0, none⟩)] w fun e w' => e = .returned (.bool (optB i0 i1 t0 t1)) ∧ Below w.heap.size w w' := by
 have hu45 := Try.underlying30
 have hu43 := Try.underlying28
 have BK := am BK0
 have FK := am FK0
 clear BK0 FK0
 have HB := am (Below.refl w.heap.size w)
 go_enter Try.func46, Try.ntmps46
 go_wp2_with (first
  | ((with_reducible refine gate_dst (N := 2) rfl ?_); refine box_event ?hg (N := 2) ?hd (cs := #[.int .i64 t0, .int .i64 t1]) (t := 28) ?hr ?_; (case hd => rfl); (case hg => rfl); (case hr => first | (go_simp; done) | (go_simp; rfl)); intro gl hg w5 hbox hb; have q0 := am (below_step HB.out hb); have q1 := am (blk_below BK.out hb); have q2 := am (blk_below FK.out hb); have BL := am hbox; clear HB BK FK hbox hg hb; have HB := q0; have BK := q1; have FK := q2; clear q0 q1 q2; have hx := blk_cell BL.out; have hy := blk_cell BK.out; have hz := blk_cell FK.out)
  | (go_at_call 43; refine (ref_any _ _ _ _ _ _ _ BK.out).mono ?_; rintro e w1 ⟨rfl, hb⟩; have q0 := am (below_step HB.out hb); have q1 := am (blk_below BK.out hb); have q2 := am (blk_below FK.out hb); have q3 := am (blk_below BL.out hb); clear HB BK FK BL hx hy hz hb; have HB := q0; have BK := q1; have FK := q2; have BL := q3; clear q0 q1 q2 q3; have hx := blk_cell BL.out; have hy := blk_cell BK.out; have hz := blk_cell FK.out))
 all_goals
  go_ret
  refine ⟨?_, HB.out⟩
  first | (simp [optB, zB, *]; done) | (simp [optB, zB, *]; clear HB BK FK BL hx hy hz hu45 hu43; grind) | (simp [optB, zB, *]; omega)
set_option maxHeartbeats 4000000 in
set_option maxRecDepth 100000 in
theorem impl_ValidOp.k1 (i0 i1 t0 t1 a0 a1 n0 n1 v : Int) (en : Bool) (tx : ByteArray) (hn : tx.size ≤ 9223372036854775807) (w : World) (c1 : vst i0 i1 = true) :
  Calls Try.prog 14 #[.agg #[.int .i64 i0, .int .i64 i1, .int .i64 1, .int .i64 t0, .int .i64 t1, .int .i64 a0, .int .i64 a1, .int .i64 n0, .int .i64 n1, .int .i64 v, .bool en, .string tx]] w fun e w' => e = .returned (.bool (vopB i0 i1 1 t0 t1 a0 a1 n0 n1 v en tx)) ∧ Below w.heap.size w w' := by
 have hu45 := Try.underlying30
 have hu43 := Try.underlying28
 generalize hR : vopB i0 i1 1 t0 t1 a0 a1 n0 n1 v en tx = R
 have HR := am hR
 clear hR
 have HN := am hn
 clear hn
 go_enter Try.func14, Try.ntmps14
 go_wp2_with fail
 have HB := am (below_alloc (below_alloc (Below.refl w.heap.size w) (.cells #[.int .i64 i0, .int .i64 i1, .int .i64 1, .int .i64 t0, .int .i64 t1, .int .i64 a0, .int .i64 a1, .int .i64 n0, .int .i64 n1, .int .i64 v, .bool en, .string tx] 30)) (.cells #[.func (Fn.func 43) #[] #[.pointer (some ⟨w.heap.size, 0, none⟩)]] 58))
 have BK := am (blk_below (blk_new w (.cells #[.int .i64 i0, .int .i64 i1, .int .i64 1, .int .i64 t0, .int .i64 t1, .int .i64 a0, .int .i64 a1, .int .i64 n0, .int .i64 n1, .int .i64 v, .bool en, .string tx] 30)) (below_alloc (Below.refl _ _) (.cells #[.func (Fn.func 43) #[] #[.pointer (some ⟨w.heap.size, 0, none⟩)]] 58)))
 have FK := am (blk_new (w.alloc (.cells #[.int .i64 i0, .int .i64 i1, .int .i64 1, .int .i64 t0, .int .i64 t1, .int .i64 a0, .int .i64 a1, .int .i64 n0, .int .i64 n1, .int .i64 v, .bool en, .string tx] 30)) (.cells #[.func (Fn.func 43) #[] #[.pointer (some ⟨w.heap.size, 0, none⟩)]] 58))
 generalize (w.alloc _).alloc _ = w0 at HB BK FK ⊢
 rw [show (w.alloc (.cells #[.int .i64 i0, .int .i64 i1, .int .i64 1, .int .i64 t0, .int .i64 t1, .int .i64 a0, .int .i64 a1, .int .i64 n0, .int .i64 n1, .int .i64 v, .bool en, .string tx] 30)).heap.size = w.heap.size + 1 from by simp] at FK
 generalize w.heap.size + 1 = g1 at FK ⊢
 generalize hg : w.heap.size = g at BK FK ⊢
 clear hg
 refine (iv_any _ _ _).mono ?_
 rintro e w1 ⟨rfl, hb⟩
 replace HB := am (below_step HB.out hb)
 replace BK := am (blk_below BK.out hb)
 replace FK := am (blk_below FK.out hb)
 clear hb
 have hy := blk_cell BK.out
 have hz := blk_cell FK.out
 go_upto_region 6 with (fail)
 clear hy hz
 have WK := am (blk_new w1 (.cells #[.int .i64 i0, .int .i64 i1, .int .i64 1, .int .i64 t0, .int .i64 t1, .int .i64 0, .int .i64 0, .int .i64 0, .int .i64 0, .int .i64 0, .bool false, .string ⟨#[]⟩] 30))
 have NW : g ≠ w1.heap.size := Nat.ne_of_lt (blk_lt BK.out)
 have NF : g1 ≠ w1.heap.size := Nat.ne_of_lt (blk_lt FK.out)
 have LW := am HB.out.size
 replace HB := am (below_alloc HB.out (.cells #[.int .i64 i0, .int .i64 i1, .int .i64 1, .int .i64 t0, .int .i64 t1, .int .i64 0, .int .i64 0, .int .i64 0, .int .i64 0, .int .i64 0, .bool false, .string ⟨#[]⟩] 30))
 replace BK := am (blk_below BK.out (below_alloc (Below.refl _ _) (.cells #[.int .i64 i0, .int .i64 i1, .int .i64 1, .int .i64 t0, .int .i64 t1, .int .i64 0, .int .i64 0, .int .i64 0, .int .i64 0, .int .i64 0, .bool false, .string ⟨#[]⟩] 30)))
 replace FK := am (blk_below FK.out (below_alloc (Below.refl _ _) (.cells #[.int .i64 i0, .int .i64 i1, .int .i64 1, .int .i64 t0, .int .i64 t1, .int .i64 0, .int .i64 0, .int .i64 0, .int .i64 0, .int .i64 0, .bool false, .string ⟨#[]⟩] 30)))
 generalize w1.alloc _ = w2 at HB BK FK WK ⊢
 generalize w1.heap.size = gw at WK NW NF LW ⊢
 have hx := blk_cell WK.out
 have hy := blk_cell BK.out
 have hz := blk_cell FK.out
 have hf := blk_frozen WK.out
 go_upto_region 8 with (fail)
 go_region
 go_upto_region 9 with (fail)
 clear hx hy hz hf
 have q0 : Aside0 (Below w.heap.size w (((w2.setCell ⟨gw, 5, none⟩ (.int .i64 a0)).setCell ⟨gw, 6, none⟩ (.int .i64 a1)).setCell ⟨gw, 9, none⟩ (.int .i64 v)).drew) := ⟨(below_drew (below_set (j := 9) (v := .int .i64 v) (below_set (j := 6) (v := .int .i64 a1) (below_set (j := 5) (v := .int .i64 a0) HB.out LW.out) LW.out) LW.out))⟩
 have q1 : Aside0 ((((w2.setCell ⟨gw, 5, none⟩ (.int .i64 a0)).setCell ⟨gw, 6, none⟩ (.int .i64 a1)).setCell ⟨gw, 9, none⟩ (.int .i64 v)).drew.heap[g]? = some (.cells #[.int .i64 i0, .int .i64 i1, .int .i64 1, .int .i64 t0, .int .i64 t1, .int .i64 a0, .int .i64 a1, .int .i64 n0, .int .i64 n1, .int .i64 v, .bool en, .string tx] 30 (0, 0))) := ⟨(blk_far (blk_far (blk_far BK.out (p := ⟨gw, 5, none⟩) NW (.int .i64 a0)) (p := ⟨gw, 6, none⟩) NW (.int .i64 a1)) (p := ⟨gw, 9, none⟩) NW (.int .i64 v))⟩
 have q2 := am (show (((w2.setCell ⟨gw, 5, none⟩ (.int .i64 a0)).setCell ⟨gw, 6, none⟩ (.int .i64 a1)).setCell ⟨gw, 9, none⟩ (.int .i64 v)).drew.heap[g1]? = some _ from (blk_far (blk_far (blk_far FK.out (p := ⟨gw, 5, none⟩) NF (.int .i64 a0)) (p := ⟨gw, 6, none⟩) NF (.int .i64 a1)) (p := ⟨gw, 9, none⟩) NF (.int .i64 v)))
 have q3 : Aside0 ((((w2.setCell ⟨gw, 5, none⟩ (.int .i64 a0)).setCell ⟨gw, 6, none⟩ (.int .i64 a1)).setCell ⟨gw, 9, none⟩ (.int .i64 v)).drew.heap[gw]? = some (.cells #[.int .i64 i0, .int .i64 i1, .int .i64 1, .int .i64 t0, .int .i64 t1, .int .i64 a0, .int .i64 a1, .int .i64 0, .int .i64 0, .int .i64 v, .bool false, .string ⟨#[]⟩] 30 (0, 0))) := ⟨(blk_set (blk_set (blk_set WK.out 5 (.int .i64 a0)) 6 (.int .i64 a1)) 9 (.int .i64 v))⟩
 clear HB BK FK WK
 generalize (((w2.setCell ⟨gw, 5, none⟩ (.int .i64 a0)).setCell ⟨gw, 6, none⟩ (.int .i64 a1)).setCell ⟨gw, 9, none⟩ (.int .i64 v)).drew = w3 at q0 q1 q2 q3 ⊢
 have HB := q0
 have BK := q1
 have FK := q2
 have WK := q3
 clear q0 q1 q2 q3 NW NF LW
 have hx := blk_cell WK.out
 have hy := blk_cell BK.out
 have hz := blk_cell FK.out
 go_wp2_with (first
  | (go_at_call 43; refine (ref_any _ _ _ _ _ _ _ BK.out).mono ?_; rintro e w1 ⟨rfl, hb⟩; have q0 := am (below_step HB.out hb); have q1 := am (blk_below BK.out hb); have q2 := am (blk_below FK.out hb); have q3 := am (blk_below WK.out hb); clear HB BK FK WK hx hy hz hb; have HB := q0; have BK := q1; have FK := q2; have WK := q3; clear q0 q1 q2 q3; have hx := blk_cell WK.out; have hy := blk_cell BK.out; have hz := blk_cell FK.out)
  | (go_at_call 46; refine (some_any _ _ _ _ _ _ _ _ BK.out FK.out).mono ?_; rintro e w1 ⟨rfl, hb⟩; have q0 := am (below_step HB.out hb); have q1 := am (blk_below BK.out hb); have q2 := am (blk_below FK.out hb); have q3 := am (blk_below WK.out hb); clear HB BK FK WK hx hy hz hb; have HB := q0; have BK := q1; have FK := q2; have WK := q3; clear q0 q1 q2 q3; have hx := blk_cell WK.out; have hy := blk_cell BK.out; have hz := blk_cell FK.out)
  | (go_at_call 47; refine (iw_any _ HN.out _).mono ?_; rintro e w1 ⟨rfl, hb⟩; have q0 := am (below_step HB.out hb); have q1 := am (blk_below BK.out hb); have q2 := am (blk_below FK.out hb); have q3 := am (blk_below WK.out hb); clear HB BK FK WK hx hy hz hb; have HB := q0; have BK := q1; have FK := q2; have WK := q3; clear q0 q1 q2 q3; have hx := blk_cell WK.out; have hy := blk_cell BK.out; have hz := blk_cell FK.out))
 all_goals
  go_ret
  refine ⟨?_, HB.out⟩
  rw [← HR.out]
  first | (simp [vopB, emB, zB, inB, *]; done) | (simp [vopB, emB, zB, inB, *]; grind) | grind [vopB, emB, zB, inB]
set_option maxHeartbeats 4000000 in
set_option maxRecDepth 100000 in
theorem impl_ValidOp.k2 (i0 i1 t0 t1 a0 a1 n0 n1 v : Int) (en : Bool) (tx : ByteArray) (hn : tx.size ≤ 9223372036854775807) (w : World) (c1 : vst i0 i1 = true) :
  Calls Try.prog 14 #[.agg #[.int .i64 i0, .int .i64 i1, .int .i64 2, .int .i64 t0, .int .i64 t1, .int .i64 a0, .int .i64 a1, .int .i64 n0, .int .i64 n1, .int .i64 v, .bool en, .string tx]] w fun e w' => e = .returned (.bool (vopB i0 i1 2 t0 t1 a0 a1 n0 n1 v en tx)) ∧ Below w.heap.size w w' := by
 have hu45 := Try.underlying30
 have hu43 := Try.underlying28
 generalize hR : vopB i0 i1 2 t0 t1 a0 a1 n0 n1 v en tx = R
 have HR := am hR
 clear hR
 have HN := am hn
 clear hn
 go_enter Try.func14, Try.ntmps14
 go_wp2_with fail
 have HB := am (below_alloc (below_alloc (Below.refl w.heap.size w) (.cells #[.int .i64 i0, .int .i64 i1, .int .i64 2, .int .i64 t0, .int .i64 t1, .int .i64 a0, .int .i64 a1, .int .i64 n0, .int .i64 n1, .int .i64 v, .bool en, .string tx] 30)) (.cells #[.func (Fn.func 43) #[] #[.pointer (some ⟨w.heap.size, 0, none⟩)]] 58))
 have BK := am (blk_below (blk_new w (.cells #[.int .i64 i0, .int .i64 i1, .int .i64 2, .int .i64 t0, .int .i64 t1, .int .i64 a0, .int .i64 a1, .int .i64 n0, .int .i64 n1, .int .i64 v, .bool en, .string tx] 30)) (below_alloc (Below.refl _ _) (.cells #[.func (Fn.func 43) #[] #[.pointer (some ⟨w.heap.size, 0, none⟩)]] 58)))
 have FK := am (blk_new (w.alloc (.cells #[.int .i64 i0, .int .i64 i1, .int .i64 2, .int .i64 t0, .int .i64 t1, .int .i64 a0, .int .i64 a1, .int .i64 n0, .int .i64 n1, .int .i64 v, .bool en, .string tx] 30)) (.cells #[.func (Fn.func 43) #[] #[.pointer (some ⟨w.heap.size, 0, none⟩)]] 58))
 generalize (w.alloc _).alloc _ = w0 at HB BK FK ⊢
 rw [show (w.alloc (.cells #[.int .i64 i0, .int .i64 i1, .int .i64 2, .int .i64 t0, .int .i64 t1, .int .i64 a0, .int .i64 a1, .int .i64 n0, .int .i64 n1, .int .i64 v, .bool en, .string tx] 30)).heap.size = w.heap.size + 1 from by simp] at FK
 generalize w.heap.size + 1 = g1 at FK ⊢
 generalize hg : w.heap.size = g at BK FK ⊢
 clear hg
 refine (iv_any _ _ _).mono ?_
 rintro e w1 ⟨rfl, hb⟩
 replace HB := am (below_step HB.out hb)
 replace BK := am (blk_below BK.out hb)
 replace FK := am (blk_below FK.out hb)
 clear hb
 have hy := blk_cell BK.out
 have hz := blk_cell FK.out
 go_upto_region 6 with (fail)
 clear hy hz
 have WK := am (blk_new w1 (.cells #[.int .i64 i0, .int .i64 i1, .int .i64 2, .int .i64 t0, .int .i64 t1, .int .i64 0, .int .i64 0, .int .i64 0, .int .i64 0, .int .i64 0, .bool false, .string ⟨#[]⟩] 30))
 have NW : g ≠ w1.heap.size := Nat.ne_of_lt (blk_lt BK.out)
 have NF : g1 ≠ w1.heap.size := Nat.ne_of_lt (blk_lt FK.out)
 have LW := am HB.out.size
 replace HB := am (below_alloc HB.out (.cells #[.int .i64 i0, .int .i64 i1, .int .i64 2, .int .i64 t0, .int .i64 t1, .int .i64 0, .int .i64 0, .int .i64 0, .int .i64 0, .int .i64 0, .bool false, .string ⟨#[]⟩] 30))
 replace BK := am (blk_below BK.out (below_alloc (Below.refl _ _) (.cells #[.int .i64 i0, .int .i64 i1, .int .i64 2, .int .i64 t0, .int .i64 t1, .int .i64 0, .int .i64 0, .int .i64 0, .int .i64 0, .int .i64 0, .bool false, .string ⟨#[]⟩] 30)))
 replace FK := am (blk_below FK.out (below_alloc (Below.refl _ _) (.cells #[.int .i64 i0, .int .i64 i1, .int .i64 2, .int .i64 t0, .int .i64 t1, .int .i64 0, .int .i64 0, .int .i64 0, .int .i64 0, .int .i64 0, .bool false, .string ⟨#[]⟩] 30)))
 generalize w1.alloc _ = w2 at HB BK FK WK ⊢
 generalize w1.heap.size = gw at WK NW NF LW ⊢
 have hx := blk_cell WK.out
 have hy := blk_cell BK.out
 have hz := blk_cell FK.out
 go_wp2_with (first
  | (go_at_call 43; refine (ref_any _ _ _ _ _ _ _ BK.out).mono ?_; rintro e w1 ⟨rfl, hb⟩; have q0 := am (below_step HB.out hb); have q1 := am (blk_below BK.out hb); have q2 := am (blk_below FK.out hb); have q3 := am (blk_below WK.out hb); clear HB BK FK WK hx hy hz hb; have HB := q0; have BK := q1; have FK := q2; have WK := q3; clear q0 q1 q2 q3; have hx := blk_cell WK.out; have hy := blk_cell BK.out; have hz := blk_cell FK.out)
  | (go_at_call 46; refine (some_any _ _ _ _ _ _ _ _ BK.out FK.out).mono ?_; rintro e w1 ⟨rfl, hb⟩; have q0 := am (below_step HB.out hb); have q1 := am (blk_below BK.out hb); have q2 := am (blk_below FK.out hb); have q3 := am (blk_below WK.out hb); clear HB BK FK WK hx hy hz hb; have HB := q0; have BK := q1; have FK := q2; have WK := q3; clear q0 q1 q2 q3; have hx := blk_cell WK.out; have hy := blk_cell BK.out; have hz := blk_cell FK.out)
  | (go_at_call 47; refine (iw_any _ HN.out _).mono ?_; rintro e w1 ⟨rfl, hb⟩; have q0 := am (below_step HB.out hb); have q1 := am (blk_below BK.out hb); have q2 := am (blk_below FK.out hb); have q3 := am (blk_below WK.out hb); clear HB BK FK WK hx hy hz hb; have HB := q0; have BK := q1; have FK := q2; have WK := q3; clear q0 q1 q2 q3; have hx := blk_cell WK.out; have hy := blk_cell BK.out; have hz := blk_cell FK.out))
 all_goals
  go_ret
  refine ⟨?_, HB.out⟩
  rw [← HR.out]
  first | (simp [vopB, emB, zB, inB, *]; done) | (simp [vopB, emB, zB, inB, *]; grind) | grind [vopB, emB, zB, inB]
set_option maxHeartbeats 4000000 in
set_option maxRecDepth 100000 in
theorem impl_ValidOp.k3 (i0 i1 t0 t1 a0 a1 n0 n1 v : Int) (en : Bool) (tx : ByteArray) (hn : tx.size ≤ 9223372036854775807) (w : World) (c1 : vst i0 i1 = true) :
  Calls Try.prog 14 #[.agg #[.int .i64 i0, .int .i64 i1, .int .i64 3, .int .i64 t0, .int .i64 t1, .int .i64 a0, .int .i64 a1, .int .i64 n0, .int .i64 n1, .int .i64 v, .bool en, .string tx]] w fun e w' => e = .returned (.bool (vopB i0 i1 3 t0 t1 a0 a1 n0 n1 v en tx)) ∧ Below w.heap.size w w' := by
 have hu45 := Try.underlying30
 have hu43 := Try.underlying28
 generalize hR : vopB i0 i1 3 t0 t1 a0 a1 n0 n1 v en tx = R
 have HR := am hR
 clear hR
 have HN := am hn
 clear hn
 go_enter Try.func14, Try.ntmps14
 go_wp2_with fail
 have HB := am (below_alloc (below_alloc (Below.refl w.heap.size w) (.cells #[.int .i64 i0, .int .i64 i1, .int .i64 3, .int .i64 t0, .int .i64 t1, .int .i64 a0, .int .i64 a1, .int .i64 n0, .int .i64 n1, .int .i64 v, .bool en, .string tx] 30)) (.cells #[.func (Fn.func 43) #[] #[.pointer (some ⟨w.heap.size, 0, none⟩)]] 58))
 have BK := am (blk_below (blk_new w (.cells #[.int .i64 i0, .int .i64 i1, .int .i64 3, .int .i64 t0, .int .i64 t1, .int .i64 a0, .int .i64 a1, .int .i64 n0, .int .i64 n1, .int .i64 v, .bool en, .string tx] 30)) (below_alloc (Below.refl _ _) (.cells #[.func (Fn.func 43) #[] #[.pointer (some ⟨w.heap.size, 0, none⟩)]] 58)))
 have FK := am (blk_new (w.alloc (.cells #[.int .i64 i0, .int .i64 i1, .int .i64 3, .int .i64 t0, .int .i64 t1, .int .i64 a0, .int .i64 a1, .int .i64 n0, .int .i64 n1, .int .i64 v, .bool en, .string tx] 30)) (.cells #[.func (Fn.func 43) #[] #[.pointer (some ⟨w.heap.size, 0, none⟩)]] 58))
 generalize (w.alloc _).alloc _ = w0 at HB BK FK ⊢
 rw [show (w.alloc (.cells #[.int .i64 i0, .int .i64 i1, .int .i64 3, .int .i64 t0, .int .i64 t1, .int .i64 a0, .int .i64 a1, .int .i64 n0, .int .i64 n1, .int .i64 v, .bool en, .string tx] 30)).heap.size = w.heap.size + 1 from by simp] at FK
 generalize w.heap.size + 1 = g1 at FK ⊢
 generalize hg : w.heap.size = g at BK FK ⊢
 clear hg
 refine (iv_any _ _ _).mono ?_
 rintro e w1 ⟨rfl, hb⟩
 replace HB := am (below_step HB.out hb)
 replace BK := am (blk_below BK.out hb)
 replace FK := am (blk_below FK.out hb)
 clear hb
 have hy := blk_cell BK.out
 have hz := blk_cell FK.out
 go_upto_region 6 with (fail)
 clear hy hz
 have WK := am (blk_new w1 (.cells #[.int .i64 i0, .int .i64 i1, .int .i64 3, .int .i64 t0, .int .i64 t1, .int .i64 0, .int .i64 0, .int .i64 0, .int .i64 0, .int .i64 0, .bool false, .string ⟨#[]⟩] 30))
 have NW : g ≠ w1.heap.size := Nat.ne_of_lt (blk_lt BK.out)
 have NF : g1 ≠ w1.heap.size := Nat.ne_of_lt (blk_lt FK.out)
 have LW := am HB.out.size
 replace HB := am (below_alloc HB.out (.cells #[.int .i64 i0, .int .i64 i1, .int .i64 3, .int .i64 t0, .int .i64 t1, .int .i64 0, .int .i64 0, .int .i64 0, .int .i64 0, .int .i64 0, .bool false, .string ⟨#[]⟩] 30))
 replace BK := am (blk_below BK.out (below_alloc (Below.refl _ _) (.cells #[.int .i64 i0, .int .i64 i1, .int .i64 3, .int .i64 t0, .int .i64 t1, .int .i64 0, .int .i64 0, .int .i64 0, .int .i64 0, .int .i64 0, .bool false, .string ⟨#[]⟩] 30)))
 replace FK := am (blk_below FK.out (below_alloc (Below.refl _ _) (.cells #[.int .i64 i0, .int .i64 i1, .int .i64 3, .int .i64 t0, .int .i64 t1, .int .i64 0, .int .i64 0, .int .i64 0, .int .i64 0, .int .i64 0, .bool false, .string ⟨#[]⟩] 30)))
 generalize w1.alloc _ = w2 at HB BK FK WK ⊢
 generalize w1.heap.size = gw at WK NW NF LW ⊢
 have hx := blk_cell WK.out
 have hy := blk_cell BK.out
 have hz := blk_cell FK.out
 have hf := blk_frozen WK.out
 go_upto_region 14 with (fail)
 go_region
 go_upto_region 15 with (fail)
 clear hx hy hz hf
 have q0 : Aside0 (Below w.heap.size w ((((w2.setCell ⟨gw, 5, none⟩ (.int .i64 a0)).setCell ⟨gw, 6, none⟩ (.int .i64 a1)).setCell ⟨gw, 9, none⟩ (.int .i64 v)).setCell ⟨gw, 10, none⟩ (.bool en)).drew) := ⟨(below_drew (below_set (j := 10) (v := .bool en) (below_set (j := 9) (v := .int .i64 v) (below_set (j := 6) (v := .int .i64 a1) (below_set (j := 5) (v := .int .i64 a0) HB.out LW.out) LW.out) LW.out) LW.out))⟩
 have q1 : Aside0 (((((w2.setCell ⟨gw, 5, none⟩ (.int .i64 a0)).setCell ⟨gw, 6, none⟩ (.int .i64 a1)).setCell ⟨gw, 9, none⟩ (.int .i64 v)).setCell ⟨gw, 10, none⟩ (.bool en)).drew.heap[g]? = some (.cells #[.int .i64 i0, .int .i64 i1, .int .i64 3, .int .i64 t0, .int .i64 t1, .int .i64 a0, .int .i64 a1, .int .i64 n0, .int .i64 n1, .int .i64 v, .bool en, .string tx] 30 (0, 0))) := ⟨(blk_far (blk_far (blk_far (blk_far BK.out (p := ⟨gw, 5, none⟩) NW (.int .i64 a0)) (p := ⟨gw, 6, none⟩) NW (.int .i64 a1)) (p := ⟨gw, 9, none⟩) NW (.int .i64 v)) (p := ⟨gw, 10, none⟩) NW (.bool en))⟩
 have q2 := am (show ((((w2.setCell ⟨gw, 5, none⟩ (.int .i64 a0)).setCell ⟨gw, 6, none⟩ (.int .i64 a1)).setCell ⟨gw, 9, none⟩ (.int .i64 v)).setCell ⟨gw, 10, none⟩ (.bool en)).drew.heap[g1]? = some _ from (blk_far (blk_far (blk_far (blk_far FK.out (p := ⟨gw, 5, none⟩) NF (.int .i64 a0)) (p := ⟨gw, 6, none⟩) NF (.int .i64 a1)) (p := ⟨gw, 9, none⟩) NF (.int .i64 v)) (p := ⟨gw, 10, none⟩) NF (.bool en)))
 have q3 : Aside0 (((((w2.setCell ⟨gw, 5, none⟩ (.int .i64 a0)).setCell ⟨gw, 6, none⟩ (.int .i64 a1)).setCell ⟨gw, 9, none⟩ (.int .i64 v)).setCell ⟨gw, 10, none⟩ (.bool en)).drew.heap[gw]? = some (.cells #[.int .i64 i0, .int .i64 i1, .int .i64 3, .int .i64 t0, .int .i64 t1, .int .i64 a0, .int .i64 a1, .int .i64 0, .int .i64 0, .int .i64 v, .bool en, .string ⟨#[]⟩] 30 (0, 0))) := ⟨(blk_set (blk_set (blk_set (blk_set WK.out 5 (.int .i64 a0)) 6 (.int .i64 a1)) 9 (.int .i64 v)) 10 (.bool en))⟩
 clear HB BK FK WK
 generalize ((((w2.setCell ⟨gw, 5, none⟩ (.int .i64 a0)).setCell ⟨gw, 6, none⟩ (.int .i64 a1)).setCell ⟨gw, 9, none⟩ (.int .i64 v)).setCell ⟨gw, 10, none⟩ (.bool en)).drew = w3 at q0 q1 q2 q3 ⊢
 have HB := q0
 have BK := q1
 have FK := q2
 have WK := q3
 clear q0 q1 q2 q3 NW NF LW
 have hx := blk_cell WK.out
 have hy := blk_cell BK.out
 have hz := blk_cell FK.out
 go_wp2_with (first
  | (go_at_call 43; refine (ref_any _ _ _ _ _ _ _ BK.out).mono ?_; rintro e w1 ⟨rfl, hb⟩; have q0 := am (below_step HB.out hb); have q1 := am (blk_below BK.out hb); have q2 := am (blk_below FK.out hb); have q3 := am (blk_below WK.out hb); clear HB BK FK WK hx hy hz hb; have HB := q0; have BK := q1; have FK := q2; have WK := q3; clear q0 q1 q2 q3; have hx := blk_cell WK.out; have hy := blk_cell BK.out; have hz := blk_cell FK.out)
  | (go_at_call 46; refine (some_any _ _ _ _ _ _ _ _ BK.out FK.out).mono ?_; rintro e w1 ⟨rfl, hb⟩; have q0 := am (below_step HB.out hb); have q1 := am (blk_below BK.out hb); have q2 := am (blk_below FK.out hb); have q3 := am (blk_below WK.out hb); clear HB BK FK WK hx hy hz hb; have HB := q0; have BK := q1; have FK := q2; have WK := q3; clear q0 q1 q2 q3; have hx := blk_cell WK.out; have hy := blk_cell BK.out; have hz := blk_cell FK.out)
  | (go_at_call 47; refine (iw_any _ HN.out _).mono ?_; rintro e w1 ⟨rfl, hb⟩; have q0 := am (below_step HB.out hb); have q1 := am (blk_below BK.out hb); have q2 := am (blk_below FK.out hb); have q3 := am (blk_below WK.out hb); clear HB BK FK WK hx hy hz hb; have HB := q0; have BK := q1; have FK := q2; have WK := q3; clear q0 q1 q2 q3; have hx := blk_cell WK.out; have hy := blk_cell BK.out; have hz := blk_cell FK.out))
 all_goals
  go_ret
  refine ⟨?_, HB.out⟩
  rw [← HR.out]
  first | (simp [vopB, emB, zB, inB, *]; done) | (simp [vopB, emB, zB, inB, *]; grind) | grind [vopB, emB, zB, inB]
set_option maxHeartbeats 4000000 in
set_option maxRecDepth 100000 in
theorem impl_ValidOp.k4 (i0 i1 t0 t1 a0 a1 n0 n1 v : Int) (en : Bool) (tx : ByteArray) (hn : tx.size ≤ 9223372036854775807) (w : World) (c1 : vst i0 i1 = true) :
  Calls Try.prog 14 #[.agg #[.int .i64 i0, .int .i64 i1, .int .i64 4, .int .i64 t0, .int .i64 t1, .int .i64 a0, .int .i64 a1, .int .i64 n0, .int .i64 n1, .int .i64 v, .bool en, .string tx]] w fun e w' => e = .returned (.bool (vopB i0 i1 4 t0 t1 a0 a1 n0 n1 v en tx)) ∧ Below w.heap.size w w' := by
 have hu45 := Try.underlying30
 have hu43 := Try.underlying28
 generalize hR : vopB i0 i1 4 t0 t1 a0 a1 n0 n1 v en tx = R
 have HR := am hR
 clear hR
 have HN := am hn
 clear hn
 go_enter Try.func14, Try.ntmps14
 go_wp2_with fail
 have HB := am (below_alloc (below_alloc (Below.refl w.heap.size w) (.cells #[.int .i64 i0, .int .i64 i1, .int .i64 4, .int .i64 t0, .int .i64 t1, .int .i64 a0, .int .i64 a1, .int .i64 n0, .int .i64 n1, .int .i64 v, .bool en, .string tx] 30)) (.cells #[.func (Fn.func 43) #[] #[.pointer (some ⟨w.heap.size, 0, none⟩)]] 58))
 have BK := am (blk_below (blk_new w (.cells #[.int .i64 i0, .int .i64 i1, .int .i64 4, .int .i64 t0, .int .i64 t1, .int .i64 a0, .int .i64 a1, .int .i64 n0, .int .i64 n1, .int .i64 v, .bool en, .string tx] 30)) (below_alloc (Below.refl _ _) (.cells #[.func (Fn.func 43) #[] #[.pointer (some ⟨w.heap.size, 0, none⟩)]] 58)))
 have FK := am (blk_new (w.alloc (.cells #[.int .i64 i0, .int .i64 i1, .int .i64 4, .int .i64 t0, .int .i64 t1, .int .i64 a0, .int .i64 a1, .int .i64 n0, .int .i64 n1, .int .i64 v, .bool en, .string tx] 30)) (.cells #[.func (Fn.func 43) #[] #[.pointer (some ⟨w.heap.size, 0, none⟩)]] 58))
 generalize (w.alloc _).alloc _ = w0 at HB BK FK ⊢
 rw [show (w.alloc (.cells #[.int .i64 i0, .int .i64 i1, .int .i64 4, .int .i64 t0, .int .i64 t1, .int .i64 a0, .int .i64 a1, .int .i64 n0, .int .i64 n1, .int .i64 v, .bool en, .string tx] 30)).heap.size = w.heap.size + 1 from by simp] at FK
 generalize w.heap.size + 1 = g1 at FK ⊢
 generalize hg : w.heap.size = g at BK FK ⊢
 clear hg
 refine (iv_any _ _ _).mono ?_
 rintro e w1 ⟨rfl, hb⟩
 replace HB := am (below_step HB.out hb)
 replace BK := am (blk_below BK.out hb)
 replace FK := am (blk_below FK.out hb)
 clear hb
 have hy := blk_cell BK.out
 have hz := blk_cell FK.out
 go_upto_region 6 with (fail)
 clear hy hz
 have WK := am (blk_new w1 (.cells #[.int .i64 i0, .int .i64 i1, .int .i64 4, .int .i64 t0, .int .i64 t1, .int .i64 0, .int .i64 0, .int .i64 0, .int .i64 0, .int .i64 0, .bool false, .string ⟨#[]⟩] 30))
 have NW : g ≠ w1.heap.size := Nat.ne_of_lt (blk_lt BK.out)
 have NF : g1 ≠ w1.heap.size := Nat.ne_of_lt (blk_lt FK.out)
 have LW := am HB.out.size
 replace HB := am (below_alloc HB.out (.cells #[.int .i64 i0, .int .i64 i1, .int .i64 4, .int .i64 t0, .int .i64 t1, .int .i64 0, .int .i64 0, .int .i64 0, .int .i64 0, .int .i64 0, .bool false, .string ⟨#[]⟩] 30))
 replace BK := am (blk_below BK.out (below_alloc (Below.refl _ _) (.cells #[.int .i64 i0, .int .i64 i1, .int .i64 4, .int .i64 t0, .int .i64 t1, .int .i64 0, .int .i64 0, .int .i64 0, .int .i64 0, .int .i64 0, .bool false, .string ⟨#[]⟩] 30)))
 replace FK := am (blk_below FK.out (below_alloc (Below.refl _ _) (.cells #[.int .i64 i0, .int .i64 i1, .int .i64 4, .int .i64 t0, .int .i64 t1, .int .i64 0, .int .i64 0, .int .i64 0, .int .i64 0, .int .i64 0, .bool false, .string ⟨#[]⟩] 30)))
 generalize w1.alloc _ = w2 at HB BK FK WK ⊢
 generalize w1.heap.size = gw at WK NW NF LW ⊢
 have hx := blk_cell WK.out
 have hy := blk_cell BK.out
 have hz := blk_cell FK.out
 have hf := blk_frozen WK.out
 go_upto_region 17 with (fail)
 go_region
 go_upto_region 18 with (fail)
 clear hx hy hz hf
 have q0 : Aside0 (Below w.heap.size w (((w2.setCell ⟨gw, 5, none⟩ (.int .i64 a0)).setCell ⟨gw, 6, none⟩ (.int .i64 a1)).setCell ⟨gw, 9, none⟩ (.int .i64 v)).drew) := ⟨(below_drew (below_set (j := 9) (v := .int .i64 v) (below_set (j := 6) (v := .int .i64 a1) (below_set (j := 5) (v := .int .i64 a0) HB.out LW.out) LW.out) LW.out))⟩
 have q1 : Aside0 ((((w2.setCell ⟨gw, 5, none⟩ (.int .i64 a0)).setCell ⟨gw, 6, none⟩ (.int .i64 a1)).setCell ⟨gw, 9, none⟩ (.int .i64 v)).drew.heap[g]? = some (.cells #[.int .i64 i0, .int .i64 i1, .int .i64 4, .int .i64 t0, .int .i64 t1, .int .i64 a0, .int .i64 a1, .int .i64 n0, .int .i64 n1, .int .i64 v, .bool en, .string tx] 30 (0, 0))) := ⟨(blk_far (blk_far (blk_far BK.out (p := ⟨gw, 5, none⟩) NW (.int .i64 a0)) (p := ⟨gw, 6, none⟩) NW (.int .i64 a1)) (p := ⟨gw, 9, none⟩) NW (.int .i64 v))⟩
 have q2 := am (show (((w2.setCell ⟨gw, 5, none⟩ (.int .i64 a0)).setCell ⟨gw, 6, none⟩ (.int .i64 a1)).setCell ⟨gw, 9, none⟩ (.int .i64 v)).drew.heap[g1]? = some _ from (blk_far (blk_far (blk_far FK.out (p := ⟨gw, 5, none⟩) NF (.int .i64 a0)) (p := ⟨gw, 6, none⟩) NF (.int .i64 a1)) (p := ⟨gw, 9, none⟩) NF (.int .i64 v)))
 have q3 : Aside0 ((((w2.setCell ⟨gw, 5, none⟩ (.int .i64 a0)).setCell ⟨gw, 6, none⟩ (.int .i64 a1)).setCell ⟨gw, 9, none⟩ (.int .i64 v)).drew.heap[gw]? = some (.cells #[.int .i64 i0, .int .i64 i1, .int .i64 4, .int .i64 t0, .int .i64 t1, .int .i64 a0, .int .i64 a1, .int .i64 0, .int .i64 0, .int .i64 v, .bool false, .string ⟨#[]⟩] 30 (0, 0))) := ⟨(blk_set (blk_set (blk_set WK.out 5 (.int .i64 a0)) 6 (.int .i64 a1)) 9 (.int .i64 v))⟩
 clear HB BK FK WK
 generalize (((w2.setCell ⟨gw, 5, none⟩ (.int .i64 a0)).setCell ⟨gw, 6, none⟩ (.int .i64 a1)).setCell ⟨gw, 9, none⟩ (.int .i64 v)).drew = w3 at q0 q1 q2 q3 ⊢
 have HB := q0
 have BK := q1
 have FK := q2
 have WK := q3
 clear q0 q1 q2 q3 NW NF LW
 have hx := blk_cell WK.out
 have hy := blk_cell BK.out
 have hz := blk_cell FK.out
 go_wp2_with (first
  | (go_at_call 43; refine (ref_any _ _ _ _ _ _ _ BK.out).mono ?_; rintro e w1 ⟨rfl, hb⟩; have q0 := am (below_step HB.out hb); have q1 := am (blk_below BK.out hb); have q2 := am (blk_below FK.out hb); have q3 := am (blk_below WK.out hb); clear HB BK FK WK hx hy hz hb; have HB := q0; have BK := q1; have FK := q2; have WK := q3; clear q0 q1 q2 q3; have hx := blk_cell WK.out; have hy := blk_cell BK.out; have hz := blk_cell FK.out)
  | (go_at_call 46; refine (some_any _ _ _ _ _ _ _ _ BK.out FK.out).mono ?_; rintro e w1 ⟨rfl, hb⟩; have q0 := am (below_step HB.out hb); have q1 := am (blk_below BK.out hb); have q2 := am (blk_below FK.out hb); have q3 := am (blk_below WK.out hb); clear HB BK FK WK hx hy hz hb; have HB := q0; have BK := q1; have FK := q2; have WK := q3; clear q0 q1 q2 q3; have hx := blk_cell WK.out; have hy := blk_cell BK.out; have hz := blk_cell FK.out)
  | (go_at_call 47; refine (iw_any _ HN.out _).mono ?_; rintro e w1 ⟨rfl, hb⟩; have q0 := am (below_step HB.out hb); have q1 := am (blk_below BK.out hb); have q2 := am (blk_below FK.out hb); have q3 := am (blk_below WK.out hb); clear HB BK FK WK hx hy hz hb; have HB := q0; have BK := q1; have FK := q2; have WK := q3; clear q0 q1 q2 q3; have hx := blk_cell WK.out; have hy := blk_cell BK.out; have hz := blk_cell FK.out))
 all_goals
  go_ret
  refine ⟨?_, HB.out⟩
  rw [← HR.out]
  first | (simp [vopB, emB, zB, inB, *]; done) | (simp [vopB, emB, zB, inB, *]; grind) | grind [vopB, emB, zB, inB]
set_option maxHeartbeats 4000000 in
set_option maxRecDepth 100000 in
theorem impl_ValidOp.k5 (i0 i1 t0 t1 a0 a1 n0 n1 v : Int) (en : Bool) (tx : ByteArray) (hn : tx.size ≤ 9223372036854775807) (w : World) (c1 : vst i0 i1 = true) :
  Calls Try.prog 14 #[.agg #[.int .i64 i0, .int .i64 i1, .int .i64 5, .int .i64 t0, .int .i64 t1, .int .i64 a0, .int .i64 a1, .int .i64 n0, .int .i64 n1, .int .i64 v, .bool en, .string tx]] w fun e w' => e = .returned (.bool (vopB i0 i1 5 t0 t1 a0 a1 n0 n1 v en tx)) ∧ Below w.heap.size w w' := by
 have hu45 := Try.underlying30
 have hu43 := Try.underlying28
 generalize hR : vopB i0 i1 5 t0 t1 a0 a1 n0 n1 v en tx = R
 have HR := am hR
 clear hR
 have HN := am hn
 clear hn
 go_enter Try.func14, Try.ntmps14
 go_wp2_with fail
 have HB := am (below_alloc (below_alloc (Below.refl w.heap.size w) (.cells #[.int .i64 i0, .int .i64 i1, .int .i64 5, .int .i64 t0, .int .i64 t1, .int .i64 a0, .int .i64 a1, .int .i64 n0, .int .i64 n1, .int .i64 v, .bool en, .string tx] 30)) (.cells #[.func (Fn.func 43) #[] #[.pointer (some ⟨w.heap.size, 0, none⟩)]] 58))
 have BK := am (blk_below (blk_new w (.cells #[.int .i64 i0, .int .i64 i1, .int .i64 5, .int .i64 t0, .int .i64 t1, .int .i64 a0, .int .i64 a1, .int .i64 n0, .int .i64 n1, .int .i64 v, .bool en, .string tx] 30)) (below_alloc (Below.refl _ _) (.cells #[.func (Fn.func 43) #[] #[.pointer (some ⟨w.heap.size, 0, none⟩)]] 58)))
 have FK := am (blk_new (w.alloc (.cells #[.int .i64 i0, .int .i64 i1, .int .i64 5, .int .i64 t0, .int .i64 t1, .int .i64 a0, .int .i64 a1, .int .i64 n0, .int .i64 n1, .int .i64 v, .bool en, .string tx] 30)) (.cells #[.func (Fn.func 43) #[] #[.pointer (some ⟨w.heap.size, 0, none⟩)]] 58))
 generalize (w.alloc _).alloc _ = w0 at HB BK FK ⊢
 rw [show (w.alloc (.cells #[.int .i64 i0, .int .i64 i1, .int .i64 5, .int .i64 t0, .int .i64 t1, .int .i64 a0, .int .i64 a1, .int .i64 n0, .int .i64 n1, .int .i64 v, .bool en, .string tx] 30)).heap.size = w.heap.size + 1 from by simp] at FK
 generalize w.heap.size + 1 = g1 at FK ⊢
 generalize hg : w.heap.size = g at BK FK ⊢
 clear hg
 refine (iv_any _ _ _).mono ?_
 rintro e w1 ⟨rfl, hb⟩
 replace HB := am (below_step HB.out hb)
 replace BK := am (blk_below BK.out hb)
 replace FK := am (blk_below FK.out hb)
 clear hb
 have hy := blk_cell BK.out
 have hz := blk_cell FK.out
 go_upto_region 6 with (fail)
 clear hy hz
 have WK := am (blk_new w1 (.cells #[.int .i64 i0, .int .i64 i1, .int .i64 5, .int .i64 t0, .int .i64 t1, .int .i64 0, .int .i64 0, .int .i64 0, .int .i64 0, .int .i64 0, .bool false, .string ⟨#[]⟩] 30))
 have NW : g ≠ w1.heap.size := Nat.ne_of_lt (blk_lt BK.out)
 have NF : g1 ≠ w1.heap.size := Nat.ne_of_lt (blk_lt FK.out)
 have LW := am HB.out.size
 replace HB := am (below_alloc HB.out (.cells #[.int .i64 i0, .int .i64 i1, .int .i64 5, .int .i64 t0, .int .i64 t1, .int .i64 0, .int .i64 0, .int .i64 0, .int .i64 0, .int .i64 0, .bool false, .string ⟨#[]⟩] 30))
 replace BK := am (blk_below BK.out (below_alloc (Below.refl _ _) (.cells #[.int .i64 i0, .int .i64 i1, .int .i64 5, .int .i64 t0, .int .i64 t1, .int .i64 0, .int .i64 0, .int .i64 0, .int .i64 0, .int .i64 0, .bool false, .string ⟨#[]⟩] 30)))
 replace FK := am (blk_below FK.out (below_alloc (Below.refl _ _) (.cells #[.int .i64 i0, .int .i64 i1, .int .i64 5, .int .i64 t0, .int .i64 t1, .int .i64 0, .int .i64 0, .int .i64 0, .int .i64 0, .int .i64 0, .bool false, .string ⟨#[]⟩] 30)))
 generalize w1.alloc _ = w2 at HB BK FK WK ⊢
 generalize w1.heap.size = gw at WK NW NF LW ⊢
 have hx := blk_cell WK.out
 have hy := blk_cell BK.out
 have hz := blk_cell FK.out
 have hf := blk_frozen WK.out
 go_upto_region 20 with (fail)
 go_region
 go_upto_region 21 with (fail)
 clear hx hy hz hf
 have q0 : Aside0 (Below w.heap.size w ((((w2.setCell ⟨gw, 5, none⟩ (.int .i64 a0)).setCell ⟨gw, 6, none⟩ (.int .i64 a1)).setCell ⟨gw, 7, none⟩ (.int .i64 n0)).setCell ⟨gw, 8, none⟩ (.int .i64 n1)).drew) := ⟨(below_drew (below_set (j := 8) (v := .int .i64 n1) (below_set (j := 7) (v := .int .i64 n0) (below_set (j := 6) (v := .int .i64 a1) (below_set (j := 5) (v := .int .i64 a0) HB.out LW.out) LW.out) LW.out) LW.out))⟩
 have q1 : Aside0 (((((w2.setCell ⟨gw, 5, none⟩ (.int .i64 a0)).setCell ⟨gw, 6, none⟩ (.int .i64 a1)).setCell ⟨gw, 7, none⟩ (.int .i64 n0)).setCell ⟨gw, 8, none⟩ (.int .i64 n1)).drew.heap[g]? = some (.cells #[.int .i64 i0, .int .i64 i1, .int .i64 5, .int .i64 t0, .int .i64 t1, .int .i64 a0, .int .i64 a1, .int .i64 n0, .int .i64 n1, .int .i64 v, .bool en, .string tx] 30 (0, 0))) := ⟨(blk_far (blk_far (blk_far (blk_far BK.out (p := ⟨gw, 5, none⟩) NW (.int .i64 a0)) (p := ⟨gw, 6, none⟩) NW (.int .i64 a1)) (p := ⟨gw, 7, none⟩) NW (.int .i64 n0)) (p := ⟨gw, 8, none⟩) NW (.int .i64 n1))⟩
 have q2 := am (show ((((w2.setCell ⟨gw, 5, none⟩ (.int .i64 a0)).setCell ⟨gw, 6, none⟩ (.int .i64 a1)).setCell ⟨gw, 7, none⟩ (.int .i64 n0)).setCell ⟨gw, 8, none⟩ (.int .i64 n1)).drew.heap[g1]? = some _ from (blk_far (blk_far (blk_far (blk_far FK.out (p := ⟨gw, 5, none⟩) NF (.int .i64 a0)) (p := ⟨gw, 6, none⟩) NF (.int .i64 a1)) (p := ⟨gw, 7, none⟩) NF (.int .i64 n0)) (p := ⟨gw, 8, none⟩) NF (.int .i64 n1)))
 have q3 : Aside0 (((((w2.setCell ⟨gw, 5, none⟩ (.int .i64 a0)).setCell ⟨gw, 6, none⟩ (.int .i64 a1)).setCell ⟨gw, 7, none⟩ (.int .i64 n0)).setCell ⟨gw, 8, none⟩ (.int .i64 n1)).drew.heap[gw]? = some (.cells #[.int .i64 i0, .int .i64 i1, .int .i64 5, .int .i64 t0, .int .i64 t1, .int .i64 a0, .int .i64 a1, .int .i64 n0, .int .i64 n1, .int .i64 0, .bool false, .string ⟨#[]⟩] 30 (0, 0))) := ⟨(blk_set (blk_set (blk_set (blk_set WK.out 5 (.int .i64 a0)) 6 (.int .i64 a1)) 7 (.int .i64 n0)) 8 (.int .i64 n1))⟩
 clear HB BK FK WK
 generalize ((((w2.setCell ⟨gw, 5, none⟩ (.int .i64 a0)).setCell ⟨gw, 6, none⟩ (.int .i64 a1)).setCell ⟨gw, 7, none⟩ (.int .i64 n0)).setCell ⟨gw, 8, none⟩ (.int .i64 n1)).drew = w3 at q0 q1 q2 q3 ⊢
 have HB := q0
 have BK := q1
 have FK := q2
 have WK := q3
 clear q0 q1 q2 q3 NW NF LW
 have hx := blk_cell WK.out
 have hy := blk_cell BK.out
 have hz := blk_cell FK.out
 go_wp2_with (first
  | (go_at_call 43; refine (ref_any _ _ _ _ _ _ _ BK.out).mono ?_; rintro e w1 ⟨rfl, hb⟩; have q0 := am (below_step HB.out hb); have q1 := am (blk_below BK.out hb); have q2 := am (blk_below FK.out hb); have q3 := am (blk_below WK.out hb); clear HB BK FK WK hx hy hz hb; have HB := q0; have BK := q1; have FK := q2; have WK := q3; clear q0 q1 q2 q3; have hx := blk_cell WK.out; have hy := blk_cell BK.out; have hz := blk_cell FK.out)
  | (go_at_call 46; refine (some_any _ _ _ _ _ _ _ _ BK.out FK.out).mono ?_; rintro e w1 ⟨rfl, hb⟩; have q0 := am (below_step HB.out hb); have q1 := am (blk_below BK.out hb); have q2 := am (blk_below FK.out hb); have q3 := am (blk_below WK.out hb); clear HB BK FK WK hx hy hz hb; have HB := q0; have BK := q1; have FK := q2; have WK := q3; clear q0 q1 q2 q3; have hx := blk_cell WK.out; have hy := blk_cell BK.out; have hz := blk_cell FK.out)
  | (go_at_call 47; refine (iw_any _ HN.out _).mono ?_; rintro e w1 ⟨rfl, hb⟩; have q0 := am (below_step HB.out hb); have q1 := am (blk_below BK.out hb); have q2 := am (blk_below FK.out hb); have q3 := am (blk_below WK.out hb); clear HB BK FK WK hx hy hz hb; have HB := q0; have BK := q1; have FK := q2; have WK := q3; clear q0 q1 q2 q3; have hx := blk_cell WK.out; have hy := blk_cell BK.out; have hz := blk_cell FK.out))
 all_goals
  go_ret
  refine ⟨?_, HB.out⟩
  rw [← HR.out]
  first | (simp [vopB, emB, zB, inB, *]; done) | (simp [vopB, emB, zB, inB, *]; grind) | grind [vopB, emB, zB, inB]
set_option maxHeartbeats 4000000 in
set_option maxRecDepth 100000 in
theorem impl_ValidOp.k6 (i0 i1 t0 t1 a0 a1 n0 n1 v : Int) (en : Bool) (tx : ByteArray) (hn : tx.size ≤ 9223372036854775807) (w : World) (c1 : vst i0 i1 = true) :
  Calls Try.prog 14 #[.agg #[.int .i64 i0, .int .i64 i1, .int .i64 6, .int .i64 t0, .int .i64 t1, .int .i64 a0, .int .i64 a1, .int .i64 n0, .int .i64 n1, .int .i64 v, .bool en, .string tx]] w fun e w' => e = .returned (.bool (vopB i0 i1 6 t0 t1 a0 a1 n0 n1 v en tx)) ∧ Below w.heap.size w w' := by
 have hu45 := Try.underlying30
 have hu43 := Try.underlying28
 generalize hR : vopB i0 i1 6 t0 t1 a0 a1 n0 n1 v en tx = R
 have HR := am hR
 clear hR
 have HN := am hn
 clear hn
 go_enter Try.func14, Try.ntmps14
 go_wp2_with fail
 have HB := am (below_alloc (below_alloc (Below.refl w.heap.size w) (.cells #[.int .i64 i0, .int .i64 i1, .int .i64 6, .int .i64 t0, .int .i64 t1, .int .i64 a0, .int .i64 a1, .int .i64 n0, .int .i64 n1, .int .i64 v, .bool en, .string tx] 30)) (.cells #[.func (Fn.func 43) #[] #[.pointer (some ⟨w.heap.size, 0, none⟩)]] 58))
 have BK := am (blk_below (blk_new w (.cells #[.int .i64 i0, .int .i64 i1, .int .i64 6, .int .i64 t0, .int .i64 t1, .int .i64 a0, .int .i64 a1, .int .i64 n0, .int .i64 n1, .int .i64 v, .bool en, .string tx] 30)) (below_alloc (Below.refl _ _) (.cells #[.func (Fn.func 43) #[] #[.pointer (some ⟨w.heap.size, 0, none⟩)]] 58)))
 have FK := am (blk_new (w.alloc (.cells #[.int .i64 i0, .int .i64 i1, .int .i64 6, .int .i64 t0, .int .i64 t1, .int .i64 a0, .int .i64 a1, .int .i64 n0, .int .i64 n1, .int .i64 v, .bool en, .string tx] 30)) (.cells #[.func (Fn.func 43) #[] #[.pointer (some ⟨w.heap.size, 0, none⟩)]] 58))
 generalize (w.alloc _).alloc _ = w0 at HB BK FK ⊢
 rw [show (w.alloc (.cells #[.int .i64 i0, .int .i64 i1, .int .i64 6, .int .i64 t0, .int .i64 t1, .int .i64 a0, .int .i64 a1, .int .i64 n0, .int .i64 n1, .int .i64 v, .bool en, .string tx] 30)).heap.size = w.heap.size + 1 from by simp] at FK
 generalize w.heap.size + 1 = g1 at FK ⊢
 generalize hg : w.heap.size = g at BK FK ⊢
 clear hg
 refine (iv_any _ _ _).mono ?_
 rintro e w1 ⟨rfl, hb⟩
 replace HB := am (below_step HB.out hb)
 replace BK := am (blk_below BK.out hb)
 replace FK := am (blk_below FK.out hb)
 clear hb
 have hy := blk_cell BK.out
 have hz := blk_cell FK.out
 go_upto_region 6 with (fail)
 clear hy hz
 have WK := am (blk_new w1 (.cells #[.int .i64 i0, .int .i64 i1, .int .i64 6, .int .i64 t0, .int .i64 t1, .int .i64 0, .int .i64 0, .int .i64 0, .int .i64 0, .int .i64 0, .bool false, .string ⟨#[]⟩] 30))
 have NW : g ≠ w1.heap.size := Nat.ne_of_lt (blk_lt BK.out)
 have NF : g1 ≠ w1.heap.size := Nat.ne_of_lt (blk_lt FK.out)
 have LW := am HB.out.size
 replace HB := am (below_alloc HB.out (.cells #[.int .i64 i0, .int .i64 i1, .int .i64 6, .int .i64 t0, .int .i64 t1, .int .i64 0, .int .i64 0, .int .i64 0, .int .i64 0, .int .i64 0, .bool false, .string ⟨#[]⟩] 30))
 replace BK := am (blk_below BK.out (below_alloc (Below.refl _ _) (.cells #[.int .i64 i0, .int .i64 i1, .int .i64 6, .int .i64 t0, .int .i64 t1, .int .i64 0, .int .i64 0, .int .i64 0, .int .i64 0, .int .i64 0, .bool false, .string ⟨#[]⟩] 30)))
 replace FK := am (blk_below FK.out (below_alloc (Below.refl _ _) (.cells #[.int .i64 i0, .int .i64 i1, .int .i64 6, .int .i64 t0, .int .i64 t1, .int .i64 0, .int .i64 0, .int .i64 0, .int .i64 0, .int .i64 0, .bool false, .string ⟨#[]⟩] 30)))
 generalize w1.alloc _ = w2 at HB BK FK WK ⊢
 generalize w1.heap.size = gw at WK NW NF LW ⊢
 have hx := blk_cell WK.out
 have hy := blk_cell BK.out
 have hz := blk_cell FK.out
 have hf := blk_frozen WK.out
 go_upto_region 24 with (fail)
 clear hx hy hz hf
 have q0 : Aside0 (Below w.heap.size w (w2.setCell ⟨gw, 9, none⟩ (.int .i64 v))) := ⟨(below_set (j := 9) (v := .int .i64 v) HB.out LW.out)⟩
 have q1 : Aside0 ((w2.setCell ⟨gw, 9, none⟩ (.int .i64 v)).heap[g]? = some (.cells #[.int .i64 i0, .int .i64 i1, .int .i64 6, .int .i64 t0, .int .i64 t1, .int .i64 a0, .int .i64 a1, .int .i64 n0, .int .i64 n1, .int .i64 v, .bool en, .string tx] 30 (0, 0))) := ⟨(blk_far BK.out (p := ⟨gw, 9, none⟩) NW (.int .i64 v))⟩
 have q2 := am (show (w2.setCell ⟨gw, 9, none⟩ (.int .i64 v)).heap[g1]? = some _ from (blk_far FK.out (p := ⟨gw, 9, none⟩) NF (.int .i64 v)))
 have q3 : Aside0 ((w2.setCell ⟨gw, 9, none⟩ (.int .i64 v)).heap[gw]? = some (.cells #[.int .i64 i0, .int .i64 i1, .int .i64 6, .int .i64 t0, .int .i64 t1, .int .i64 0, .int .i64 0, .int .i64 0, .int .i64 0, .int .i64 v, .bool false, .string ⟨#[]⟩] 30 (0, 0))) := ⟨(blk_set WK.out 9 (.int .i64 v))⟩
 clear HB BK FK WK
 generalize (w2.setCell ⟨gw, 9, none⟩ (.int .i64 v)) = w3 at q0 q1 q2 q3 ⊢
 have HB := q0
 have BK := q1
 have FK := q2
 have WK := q3
 clear q0 q1 q2 q3 NW NF LW
 have hx := blk_cell WK.out
 have hy := blk_cell BK.out
 have hz := blk_cell FK.out
 go_wp2_with (first
  | (go_at_call 43; refine (ref_any _ _ _ _ _ _ _ BK.out).mono ?_; rintro e w1 ⟨rfl, hb⟩; have q0 := am (below_step HB.out hb); have q1 := am (blk_below BK.out hb); have q2 := am (blk_below FK.out hb); have q3 := am (blk_below WK.out hb); clear HB BK FK WK hx hy hz hb; have HB := q0; have BK := q1; have FK := q2; have WK := q3; clear q0 q1 q2 q3; have hx := blk_cell WK.out; have hy := blk_cell BK.out; have hz := blk_cell FK.out)
  | (go_at_call 46; refine (some_any _ _ _ _ _ _ _ _ BK.out FK.out).mono ?_; rintro e w1 ⟨rfl, hb⟩; have q0 := am (below_step HB.out hb); have q1 := am (blk_below BK.out hb); have q2 := am (blk_below FK.out hb); have q3 := am (blk_below WK.out hb); clear HB BK FK WK hx hy hz hb; have HB := q0; have BK := q1; have FK := q2; have WK := q3; clear q0 q1 q2 q3; have hx := blk_cell WK.out; have hy := blk_cell BK.out; have hz := blk_cell FK.out)
  | (go_at_call 47; refine (iw_any _ HN.out _).mono ?_; rintro e w1 ⟨rfl, hb⟩; have q0 := am (below_step HB.out hb); have q1 := am (blk_below BK.out hb); have q2 := am (blk_below FK.out hb); have q3 := am (blk_below WK.out hb); clear HB BK FK WK hx hy hz hb; have HB := q0; have BK := q1; have FK := q2; have WK := q3; clear q0 q1 q2 q3; have hx := blk_cell WK.out; have hy := blk_cell BK.out; have hz := blk_cell FK.out))
 all_goals
  go_ret
  refine ⟨?_, HB.out⟩
  rw [← HR.out]
  first | (simp [vopB, emB, zB, inB, *]; done) | (simp [vopB, emB, zB, inB, *]; grind) | grind [vopB, emB, zB, inB]
set_option maxHeartbeats 4000000 in
set_option maxRecDepth 100000 in
theorem impl_ValidOp.k7 (i0 i1 t0 t1 a0 a1 n0 n1 v : Int) (en : Bool) (tx : ByteArray) (hn : tx.size ≤ 9223372036854775807) (w : World) (c1 : vst i0 i1 = true) :
  Calls Try.prog 14 #[.agg #[.int .i64 i0, .int .i64 i1, .int .i64 7, .int .i64 t0, .int .i64 t1, .int .i64 a0, .int .i64 a1, .int .i64 n0, .int .i64 n1, .int .i64 v, .bool en, .string tx]] w fun e w' => e = .returned (.bool (vopB i0 i1 7 t0 t1 a0 a1 n0 n1 v en tx)) ∧ Below w.heap.size w w' := by
 have hu45 := Try.underlying30
 have hu43 := Try.underlying28
 generalize hR : vopB i0 i1 7 t0 t1 a0 a1 n0 n1 v en tx = R
 have HR := am hR
 clear hR
 have HN := am hn
 clear hn
 go_enter Try.func14, Try.ntmps14
 go_wp2_with fail
 have HB := am (below_alloc (below_alloc (Below.refl w.heap.size w) (.cells #[.int .i64 i0, .int .i64 i1, .int .i64 7, .int .i64 t0, .int .i64 t1, .int .i64 a0, .int .i64 a1, .int .i64 n0, .int .i64 n1, .int .i64 v, .bool en, .string tx] 30)) (.cells #[.func (Fn.func 43) #[] #[.pointer (some ⟨w.heap.size, 0, none⟩)]] 58))
 have BK := am (blk_below (blk_new w (.cells #[.int .i64 i0, .int .i64 i1, .int .i64 7, .int .i64 t0, .int .i64 t1, .int .i64 a0, .int .i64 a1, .int .i64 n0, .int .i64 n1, .int .i64 v, .bool en, .string tx] 30)) (below_alloc (Below.refl _ _) (.cells #[.func (Fn.func 43) #[] #[.pointer (some ⟨w.heap.size, 0, none⟩)]] 58)))
 have FK := am (blk_new (w.alloc (.cells #[.int .i64 i0, .int .i64 i1, .int .i64 7, .int .i64 t0, .int .i64 t1, .int .i64 a0, .int .i64 a1, .int .i64 n0, .int .i64 n1, .int .i64 v, .bool en, .string tx] 30)) (.cells #[.func (Fn.func 43) #[] #[.pointer (some ⟨w.heap.size, 0, none⟩)]] 58))
 generalize (w.alloc _).alloc _ = w0 at HB BK FK ⊢
 rw [show (w.alloc (.cells #[.int .i64 i0, .int .i64 i1, .int .i64 7, .int .i64 t0, .int .i64 t1, .int .i64 a0, .int .i64 a1, .int .i64 n0, .int .i64 n1, .int .i64 v, .bool en, .string tx] 30)).heap.size = w.heap.size + 1 from by simp] at FK
 generalize w.heap.size + 1 = g1 at FK ⊢
 generalize hg : w.heap.size = g at BK FK ⊢
 clear hg
 refine (iv_any _ _ _).mono ?_
 rintro e w1 ⟨rfl, hb⟩
 replace HB := am (below_step HB.out hb)
 replace BK := am (blk_below BK.out hb)
 replace FK := am (blk_below FK.out hb)
 clear hb
 have hy := blk_cell BK.out
 have hz := blk_cell FK.out
 go_upto_region 6 with (fail)
 clear hy hz
 have WK := am (blk_new w1 (.cells #[.int .i64 i0, .int .i64 i1, .int .i64 7, .int .i64 t0, .int .i64 t1, .int .i64 0, .int .i64 0, .int .i64 0, .int .i64 0, .int .i64 0, .bool false, .string ⟨#[]⟩] 30))
 have NW : g ≠ w1.heap.size := Nat.ne_of_lt (blk_lt BK.out)
 have NF : g1 ≠ w1.heap.size := Nat.ne_of_lt (blk_lt FK.out)
 have LW := am HB.out.size
 replace HB := am (below_alloc HB.out (.cells #[.int .i64 i0, .int .i64 i1, .int .i64 7, .int .i64 t0, .int .i64 t1, .int .i64 0, .int .i64 0, .int .i64 0, .int .i64 0, .int .i64 0, .bool false, .string ⟨#[]⟩] 30))
 replace BK := am (blk_below BK.out (below_alloc (Below.refl _ _) (.cells #[.int .i64 i0, .int .i64 i1, .int .i64 7, .int .i64 t0, .int .i64 t1, .int .i64 0, .int .i64 0, .int .i64 0, .int .i64 0, .int .i64 0, .bool false, .string ⟨#[]⟩] 30)))
 replace FK := am (blk_below FK.out (below_alloc (Below.refl _ _) (.cells #[.int .i64 i0, .int .i64 i1, .int .i64 7, .int .i64 t0, .int .i64 t1, .int .i64 0, .int .i64 0, .int .i64 0, .int .i64 0, .int .i64 0, .bool false, .string ⟨#[]⟩] 30)))
 generalize w1.alloc _ = w2 at HB BK FK WK ⊢
 generalize w1.heap.size = gw at WK NW NF LW ⊢
 have hx := blk_cell WK.out
 have hy := blk_cell BK.out
 have hz := blk_cell FK.out
 go_wp2_with (first
  | (go_at_call 43; refine (ref_any _ _ _ _ _ _ _ BK.out).mono ?_; rintro e w1 ⟨rfl, hb⟩; have q0 := am (below_step HB.out hb); have q1 := am (blk_below BK.out hb); have q2 := am (blk_below FK.out hb); have q3 := am (blk_below WK.out hb); clear HB BK FK WK hx hy hz hb; have HB := q0; have BK := q1; have FK := q2; have WK := q3; clear q0 q1 q2 q3; have hx := blk_cell WK.out; have hy := blk_cell BK.out; have hz := blk_cell FK.out)
  | (go_at_call 46; refine (some_any _ _ _ _ _ _ _ _ BK.out FK.out).mono ?_; rintro e w1 ⟨rfl, hb⟩; have q0 := am (below_step HB.out hb); have q1 := am (blk_below BK.out hb); have q2 := am (blk_below FK.out hb); have q3 := am (blk_below WK.out hb); clear HB BK FK WK hx hy hz hb; have HB := q0; have BK := q1; have FK := q2; have WK := q3; clear q0 q1 q2 q3; have hx := blk_cell WK.out; have hy := blk_cell BK.out; have hz := blk_cell FK.out)
  | (go_at_call 47; refine (iw_any _ HN.out _).mono ?_; rintro e w1 ⟨rfl, hb⟩; have q0 := am (below_step HB.out hb); have q1 := am (blk_below BK.out hb); have q2 := am (blk_below FK.out hb); have q3 := am (blk_below WK.out hb); clear HB BK FK WK hx hy hz hb; have HB := q0; have BK := q1; have FK := q2; have WK := q3; clear q0 q1 q2 q3; have hx := blk_cell WK.out; have hy := blk_cell BK.out; have hz := blk_cell FK.out))
 all_goals
  go_ret
  refine ⟨?_, HB.out⟩
  rw [← HR.out]
  first | (simp [vopB, emB, zB, inB, *]; done) | (simp [vopB, emB, zB, inB, *]; grind) | grind [vopB, emB, zB, inB]
set_option maxHeartbeats 4000000 in
set_option maxRecDepth 100000 in
theorem impl_ValidOp.k8 (i0 i1 t0 t1 a0 a1 n0 n1 v : Int) (en : Bool) (tx : ByteArray) (hn : tx.size ≤ 9223372036854775807) (w : World) (c1 : vst i0 i1 = true) :
  Calls Try.prog 14 #[.agg #[.int .i64 i0, .int .i64 i1, .int .i64 8, .int .i64 t0, .int .i64 t1, .int .i64 a0, .int .i64 a1, .int .i64 n0, .int .i64 n1, .int .i64 v, .bool en, .string tx]] w fun e w' => e = .returned (.bool (vopB i0 i1 8 t0 t1 a0 a1 n0 n1 v en tx)) ∧ Below w.heap.size w w' := by
 have hu45 := Try.underlying30
 have hu43 := Try.underlying28
 generalize hR : vopB i0 i1 8 t0 t1 a0 a1 n0 n1 v en tx = R
 have HR := am hR
 clear hR
 have HN := am hn
 clear hn
 go_enter Try.func14, Try.ntmps14
 go_wp2_with fail
 have HB := am (below_alloc (below_alloc (Below.refl w.heap.size w) (.cells #[.int .i64 i0, .int .i64 i1, .int .i64 8, .int .i64 t0, .int .i64 t1, .int .i64 a0, .int .i64 a1, .int .i64 n0, .int .i64 n1, .int .i64 v, .bool en, .string tx] 30)) (.cells #[.func (Fn.func 43) #[] #[.pointer (some ⟨w.heap.size, 0, none⟩)]] 58))
 have BK := am (blk_below (blk_new w (.cells #[.int .i64 i0, .int .i64 i1, .int .i64 8, .int .i64 t0, .int .i64 t1, .int .i64 a0, .int .i64 a1, .int .i64 n0, .int .i64 n1, .int .i64 v, .bool en, .string tx] 30)) (below_alloc (Below.refl _ _) (.cells #[.func (Fn.func 43) #[] #[.pointer (some ⟨w.heap.size, 0, none⟩)]] 58)))
 have FK := am (blk_new (w.alloc (.cells #[.int .i64 i0, .int .i64 i1, .int .i64 8, .int .i64 t0, .int .i64 t1, .int .i64 a0, .int .i64 a1, .int .i64 n0, .int .i64 n1, .int .i64 v, .bool en, .string tx] 30)) (.cells #[.func (Fn.func 43) #[] #[.pointer (some ⟨w.heap.size, 0, none⟩)]] 58))
 generalize (w.alloc _).alloc _ = w0 at HB BK FK ⊢
 rw [show (w.alloc (.cells #[.int .i64 i0, .int .i64 i1, .int .i64 8, .int .i64 t0, .int .i64 t1, .int .i64 a0, .int .i64 a1, .int .i64 n0, .int .i64 n1, .int .i64 v, .bool en, .string tx] 30)).heap.size = w.heap.size + 1 from by simp] at FK
 generalize w.heap.size + 1 = g1 at FK ⊢
 generalize hg : w.heap.size = g at BK FK ⊢
 clear hg
 refine (iv_any _ _ _).mono ?_
 rintro e w1 ⟨rfl, hb⟩
 replace HB := am (below_step HB.out hb)
 replace BK := am (blk_below BK.out hb)
 replace FK := am (blk_below FK.out hb)
 clear hb
 have hy := blk_cell BK.out
 have hz := blk_cell FK.out
 go_upto_region 6 with (fail)
 clear hy hz
 have WK := am (blk_new w1 (.cells #[.int .i64 i0, .int .i64 i1, .int .i64 8, .int .i64 t0, .int .i64 t1, .int .i64 0, .int .i64 0, .int .i64 0, .int .i64 0, .int .i64 0, .bool false, .string ⟨#[]⟩] 30))
 have NW : g ≠ w1.heap.size := Nat.ne_of_lt (blk_lt BK.out)
 have NF : g1 ≠ w1.heap.size := Nat.ne_of_lt (blk_lt FK.out)
 have LW := am HB.out.size
 replace HB := am (below_alloc HB.out (.cells #[.int .i64 i0, .int .i64 i1, .int .i64 8, .int .i64 t0, .int .i64 t1, .int .i64 0, .int .i64 0, .int .i64 0, .int .i64 0, .int .i64 0, .bool false, .string ⟨#[]⟩] 30))
 replace BK := am (blk_below BK.out (below_alloc (Below.refl _ _) (.cells #[.int .i64 i0, .int .i64 i1, .int .i64 8, .int .i64 t0, .int .i64 t1, .int .i64 0, .int .i64 0, .int .i64 0, .int .i64 0, .int .i64 0, .bool false, .string ⟨#[]⟩] 30)))
 replace FK := am (blk_below FK.out (below_alloc (Below.refl _ _) (.cells #[.int .i64 i0, .int .i64 i1, .int .i64 8, .int .i64 t0, .int .i64 t1, .int .i64 0, .int .i64 0, .int .i64 0, .int .i64 0, .int .i64 0, .bool false, .string ⟨#[]⟩] 30)))
 generalize w1.alloc _ = w2 at HB BK FK WK ⊢
 generalize w1.heap.size = gw at WK NW NF LW ⊢
 have hx := blk_cell WK.out
 have hy := blk_cell BK.out
 have hz := blk_cell FK.out
 have hf := blk_frozen WK.out
 go_upto_region 26 with (fail)
 go_region
 go_upto_region 27 with (fail)
 clear hx hy hz hf
 have q0 : Aside0 (Below w.heap.size w (((w2.setCell ⟨gw, 5, none⟩ (.int .i64 a0)).setCell ⟨gw, 6, none⟩ (.int .i64 a1)).setCell ⟨gw, 11, none⟩ (.string tx)).drew) := ⟨(below_drew (below_set (j := 11) (v := .string tx) (below_set (j := 6) (v := .int .i64 a1) (below_set (j := 5) (v := .int .i64 a0) HB.out LW.out) LW.out) LW.out))⟩
 have q1 : Aside0 ((((w2.setCell ⟨gw, 5, none⟩ (.int .i64 a0)).setCell ⟨gw, 6, none⟩ (.int .i64 a1)).setCell ⟨gw, 11, none⟩ (.string tx)).drew.heap[g]? = some (.cells #[.int .i64 i0, .int .i64 i1, .int .i64 8, .int .i64 t0, .int .i64 t1, .int .i64 a0, .int .i64 a1, .int .i64 n0, .int .i64 n1, .int .i64 v, .bool en, .string tx] 30 (0, 0))) := ⟨(blk_far (blk_far (blk_far BK.out (p := ⟨gw, 5, none⟩) NW (.int .i64 a0)) (p := ⟨gw, 6, none⟩) NW (.int .i64 a1)) (p := ⟨gw, 11, none⟩) NW (.string tx))⟩
 have q2 := am (show (((w2.setCell ⟨gw, 5, none⟩ (.int .i64 a0)).setCell ⟨gw, 6, none⟩ (.int .i64 a1)).setCell ⟨gw, 11, none⟩ (.string tx)).drew.heap[g1]? = some _ from (blk_far (blk_far (blk_far FK.out (p := ⟨gw, 5, none⟩) NF (.int .i64 a0)) (p := ⟨gw, 6, none⟩) NF (.int .i64 a1)) (p := ⟨gw, 11, none⟩) NF (.string tx)))
 have q3 : Aside0 ((((w2.setCell ⟨gw, 5, none⟩ (.int .i64 a0)).setCell ⟨gw, 6, none⟩ (.int .i64 a1)).setCell ⟨gw, 11, none⟩ (.string tx)).drew.heap[gw]? = some (.cells #[.int .i64 i0, .int .i64 i1, .int .i64 8, .int .i64 t0, .int .i64 t1, .int .i64 a0, .int .i64 a1, .int .i64 0, .int .i64 0, .int .i64 0, .bool false, .string tx] 30 (0, 0))) := ⟨(blk_set (blk_set (blk_set WK.out 5 (.int .i64 a0)) 6 (.int .i64 a1)) 11 (.string tx))⟩
 clear HB BK FK WK
 generalize (((w2.setCell ⟨gw, 5, none⟩ (.int .i64 a0)).setCell ⟨gw, 6, none⟩ (.int .i64 a1)).setCell ⟨gw, 11, none⟩ (.string tx)).drew = w3 at q0 q1 q2 q3 ⊢
 have HB := q0
 have BK := q1
 have FK := q2
 have WK := q3
 clear q0 q1 q2 q3 NW NF LW
 have hx := blk_cell WK.out
 have hy := blk_cell BK.out
 have hz := blk_cell FK.out
 go_wp2_with (first
  | (go_at_call 43; refine (ref_any _ _ _ _ _ _ _ BK.out).mono ?_; rintro e w1 ⟨rfl, hb⟩; have q0 := am (below_step HB.out hb); have q1 := am (blk_below BK.out hb); have q2 := am (blk_below FK.out hb); have q3 := am (blk_below WK.out hb); clear HB BK FK WK hx hy hz hb; have HB := q0; have BK := q1; have FK := q2; have WK := q3; clear q0 q1 q2 q3; have hx := blk_cell WK.out; have hy := blk_cell BK.out; have hz := blk_cell FK.out)
  | (go_at_call 46; refine (some_any _ _ _ _ _ _ _ _ BK.out FK.out).mono ?_; rintro e w1 ⟨rfl, hb⟩; have q0 := am (below_step HB.out hb); have q1 := am (blk_below BK.out hb); have q2 := am (blk_below FK.out hb); have q3 := am (blk_below WK.out hb); clear HB BK FK WK hx hy hz hb; have HB := q0; have BK := q1; have FK := q2; have WK := q3; clear q0 q1 q2 q3; have hx := blk_cell WK.out; have hy := blk_cell BK.out; have hz := blk_cell FK.out)
  | (go_at_call 47; refine (iw_any _ HN.out _).mono ?_; rintro e w1 ⟨rfl, hb⟩; have q0 := am (below_step HB.out hb); have q1 := am (blk_below BK.out hb); have q2 := am (blk_below FK.out hb); have q3 := am (blk_below WK.out hb); clear HB BK FK WK hx hy hz hb; have HB := q0; have BK := q1; have FK := q2; have WK := q3; clear q0 q1 q2 q3; have hx := blk_cell WK.out; have hy := blk_cell BK.out; have hz := blk_cell FK.out))
 all_goals
  go_ret
  refine ⟨?_, HB.out⟩
  rw [← HR.out]
  first | (simp [vopB, emB, zB, inB, *]; done) | (simp [vopB, emB, zB, inB, *]; grind) | grind [vopB, emB, zB, inB]
set_option maxHeartbeats 4000000 in
set_option maxRecDepth 100000 in
theorem impl_ValidOp.k9 (i0 i1 t0 t1 a0 a1 n0 n1 v : Int) (en : Bool) (tx : ByteArray) (hn : tx.size ≤ 9223372036854775807) (w : World) (c1 : vst i0 i1 = true) :
  Calls Try.prog 14 #[.agg #[.int .i64 i0, .int .i64 i1, .int .i64 9, .int .i64 t0, .int .i64 t1, .int .i64 a0, .int .i64 a1, .int .i64 n0, .int .i64 n1, .int .i64 v, .bool en, .string tx]] w fun e w' => e = .returned (.bool (vopB i0 i1 9 t0 t1 a0 a1 n0 n1 v en tx)) ∧ Below w.heap.size w w' := by
 have hu45 := Try.underlying30
 have hu43 := Try.underlying28
 generalize hR : vopB i0 i1 9 t0 t1 a0 a1 n0 n1 v en tx = R
 have HR := am hR
 clear hR
 have HN := am hn
 clear hn
 go_enter Try.func14, Try.ntmps14
 go_wp2_with fail
 have HB := am (below_alloc (below_alloc (Below.refl w.heap.size w) (.cells #[.int .i64 i0, .int .i64 i1, .int .i64 9, .int .i64 t0, .int .i64 t1, .int .i64 a0, .int .i64 a1, .int .i64 n0, .int .i64 n1, .int .i64 v, .bool en, .string tx] 30)) (.cells #[.func (Fn.func 43) #[] #[.pointer (some ⟨w.heap.size, 0, none⟩)]] 58))
 have BK := am (blk_below (blk_new w (.cells #[.int .i64 i0, .int .i64 i1, .int .i64 9, .int .i64 t0, .int .i64 t1, .int .i64 a0, .int .i64 a1, .int .i64 n0, .int .i64 n1, .int .i64 v, .bool en, .string tx] 30)) (below_alloc (Below.refl _ _) (.cells #[.func (Fn.func 43) #[] #[.pointer (some ⟨w.heap.size, 0, none⟩)]] 58)))
 have FK := am (blk_new (w.alloc (.cells #[.int .i64 i0, .int .i64 i1, .int .i64 9, .int .i64 t0, .int .i64 t1, .int .i64 a0, .int .i64 a1, .int .i64 n0, .int .i64 n1, .int .i64 v, .bool en, .string tx] 30)) (.cells #[.func (Fn.func 43) #[] #[.pointer (some ⟨w.heap.size, 0, none⟩)]] 58))
 generalize (w.alloc _).alloc _ = w0 at HB BK FK ⊢
 rw [show (w.alloc (.cells #[.int .i64 i0, .int .i64 i1, .int .i64 9, .int .i64 t0, .int .i64 t1, .int .i64 a0, .int .i64 a1, .int .i64 n0, .int .i64 n1, .int .i64 v, .bool en, .string tx] 30)).heap.size = w.heap.size + 1 from by simp] at FK
 generalize w.heap.size + 1 = g1 at FK ⊢
 generalize hg : w.heap.size = g at BK FK ⊢
 clear hg
 refine (iv_any _ _ _).mono ?_
 rintro e w1 ⟨rfl, hb⟩
 replace HB := am (below_step HB.out hb)
 replace BK := am (blk_below BK.out hb)
 replace FK := am (blk_below FK.out hb)
 clear hb
 have hy := blk_cell BK.out
 have hz := blk_cell FK.out
 go_upto_region 6 with (fail)
 clear hy hz
 have WK := am (blk_new w1 (.cells #[.int .i64 i0, .int .i64 i1, .int .i64 9, .int .i64 t0, .int .i64 t1, .int .i64 0, .int .i64 0, .int .i64 0, .int .i64 0, .int .i64 0, .bool false, .string ⟨#[]⟩] 30))
 have NW : g ≠ w1.heap.size := Nat.ne_of_lt (blk_lt BK.out)
 have NF : g1 ≠ w1.heap.size := Nat.ne_of_lt (blk_lt FK.out)
 have LW := am HB.out.size
 replace HB := am (below_alloc HB.out (.cells #[.int .i64 i0, .int .i64 i1, .int .i64 9, .int .i64 t0, .int .i64 t1, .int .i64 0, .int .i64 0, .int .i64 0, .int .i64 0, .int .i64 0, .bool false, .string ⟨#[]⟩] 30))
 replace BK := am (blk_below BK.out (below_alloc (Below.refl _ _) (.cells #[.int .i64 i0, .int .i64 i1, .int .i64 9, .int .i64 t0, .int .i64 t1, .int .i64 0, .int .i64 0, .int .i64 0, .int .i64 0, .int .i64 0, .bool false, .string ⟨#[]⟩] 30)))
 replace FK := am (blk_below FK.out (below_alloc (Below.refl _ _) (.cells #[.int .i64 i0, .int .i64 i1, .int .i64 9, .int .i64 t0, .int .i64 t1, .int .i64 0, .int .i64 0, .int .i64 0, .int .i64 0, .int .i64 0, .bool false, .string ⟨#[]⟩] 30)))
 generalize w1.alloc _ = w2 at HB BK FK WK ⊢
 generalize w1.heap.size = gw at WK NW NF LW ⊢
 have hx := blk_cell WK.out
 have hy := blk_cell BK.out
 have hz := blk_cell FK.out
 have hf := blk_frozen WK.out
 go_upto_region 30 with (fail)
 clear hx hy hz hf
 have q0 : Aside0 (Below w.heap.size w (w2.setCell ⟨gw, 11, none⟩ (.string tx))) := ⟨(below_set (j := 11) (v := .string tx) HB.out LW.out)⟩
 have q1 : Aside0 ((w2.setCell ⟨gw, 11, none⟩ (.string tx)).heap[g]? = some (.cells #[.int .i64 i0, .int .i64 i1, .int .i64 9, .int .i64 t0, .int .i64 t1, .int .i64 a0, .int .i64 a1, .int .i64 n0, .int .i64 n1, .int .i64 v, .bool en, .string tx] 30 (0, 0))) := ⟨(blk_far BK.out (p := ⟨gw, 11, none⟩) NW (.string tx))⟩
 have q2 := am (show (w2.setCell ⟨gw, 11, none⟩ (.string tx)).heap[g1]? = some _ from (blk_far FK.out (p := ⟨gw, 11, none⟩) NF (.string tx)))
 have q3 : Aside0 ((w2.setCell ⟨gw, 11, none⟩ (.string tx)).heap[gw]? = some (.cells #[.int .i64 i0, .int .i64 i1, .int .i64 9, .int .i64 t0, .int .i64 t1, .int .i64 0, .int .i64 0, .int .i64 0, .int .i64 0, .int .i64 0, .bool false, .string tx] 30 (0, 0))) := ⟨(blk_set WK.out 11 (.string tx))⟩
 clear HB BK FK WK
 generalize (w2.setCell ⟨gw, 11, none⟩ (.string tx)) = w3 at q0 q1 q2 q3 ⊢
 have HB := q0
 have BK := q1
 have FK := q2
 have WK := q3
 clear q0 q1 q2 q3 NW NF LW
 have hx := blk_cell WK.out
 have hy := blk_cell BK.out
 have hz := blk_cell FK.out
 go_wp2_with (first
  | (go_at_call 43; refine (ref_any _ _ _ _ _ _ _ BK.out).mono ?_; rintro e w1 ⟨rfl, hb⟩; have q0 := am (below_step HB.out hb); have q1 := am (blk_below BK.out hb); have q2 := am (blk_below FK.out hb); have q3 := am (blk_below WK.out hb); clear HB BK FK WK hx hy hz hb; have HB := q0; have BK := q1; have FK := q2; have WK := q3; clear q0 q1 q2 q3; have hx := blk_cell WK.out; have hy := blk_cell BK.out; have hz := blk_cell FK.out)
  | (go_at_call 46; refine (some_any _ _ _ _ _ _ _ _ BK.out FK.out).mono ?_; rintro e w1 ⟨rfl, hb⟩; have q0 := am (below_step HB.out hb); have q1 := am (blk_below BK.out hb); have q2 := am (blk_below FK.out hb); have q3 := am (blk_below WK.out hb); clear HB BK FK WK hx hy hz hb; have HB := q0; have BK := q1; have FK := q2; have WK := q3; clear q0 q1 q2 q3; have hx := blk_cell WK.out; have hy := blk_cell BK.out; have hz := blk_cell FK.out)
  | (go_at_call 47; refine (iw_any _ HN.out _).mono ?_; rintro e w1 ⟨rfl, hb⟩; have q0 := am (below_step HB.out hb); have q1 := am (blk_below BK.out hb); have q2 := am (blk_below FK.out hb); have q3 := am (blk_below WK.out hb); clear HB BK FK WK hx hy hz hb; have HB := q0; have BK := q1; have FK := q2; have WK := q3; clear q0 q1 q2 q3; have hx := blk_cell WK.out; have hy := blk_cell BK.out; have hz := blk_cell FK.out))
 all_goals
  go_ret
  refine ⟨?_, HB.out⟩
  rw [← HR.out]
  first | (simp [vopB, emB, zB, inB, *]; done) | (simp [vopB, emB, zB, inB, *]; grind) | grind [vopB, emB, zB, inB]
set_option maxHeartbeats 4000000 in
set_option maxRecDepth 100000 in
theorem impl_ValidOp.k10 (i0 i1 t0 t1 a0 a1 n0 n1 v : Int) (en : Bool) (tx : ByteArray) (hn : tx.size ≤ 9223372036854775807) (w : World) (c1 : vst i0 i1 = true) :
  Calls Try.prog 14 #[.agg #[.int .i64 i0, .int .i64 i1, .int .i64 10, .int .i64 t0, .int .i64 t1, .int .i64 a0, .int .i64 a1, .int .i64 n0, .int .i64 n1, .int .i64 v, .bool en, .string tx]] w fun e w' => e = .returned (.bool (vopB i0 i1 10 t0 t1 a0 a1 n0 n1 v en tx)) ∧ Below w.heap.size w w' := by
 have hu45 := Try.underlying30
 have hu43 := Try.underlying28
 generalize hR : vopB i0 i1 10 t0 t1 a0 a1 n0 n1 v en tx = R
 have HR := am hR
 clear hR
 have HN := am hn
 clear hn
 go_enter Try.func14, Try.ntmps14
 go_wp2_with fail
 have HB := am (below_alloc (below_alloc (Below.refl w.heap.size w) (.cells #[.int .i64 i0, .int .i64 i1, .int .i64 10, .int .i64 t0, .int .i64 t1, .int .i64 a0, .int .i64 a1, .int .i64 n0, .int .i64 n1, .int .i64 v, .bool en, .string tx] 30)) (.cells #[.func (Fn.func 43) #[] #[.pointer (some ⟨w.heap.size, 0, none⟩)]] 58))
 have BK := am (blk_below (blk_new w (.cells #[.int .i64 i0, .int .i64 i1, .int .i64 10, .int .i64 t0, .int .i64 t1, .int .i64 a0, .int .i64 a1, .int .i64 n0, .int .i64 n1, .int .i64 v, .bool en, .string tx] 30)) (below_alloc (Below.refl _ _) (.cells #[.func (Fn.func 43) #[] #[.pointer (some ⟨w.heap.size, 0, none⟩)]] 58)))
 have FK := am (blk_new (w.alloc (.cells #[.int .i64 i0, .int .i64 i1, .int .i64 10, .int .i64 t0, .int .i64 t1, .int .i64 a0, .int .i64 a1, .int .i64 n0, .int .i64 n1, .int .i64 v, .bool en, .string tx] 30)) (.cells #[.func (Fn.func 43) #[] #[.pointer (some ⟨w.heap.size, 0, none⟩)]] 58))
 generalize (w.alloc _).alloc _ = w0 at HB BK FK ⊢
 rw [show (w.alloc (.cells #[.int .i64 i0, .int .i64 i1, .int .i64 10, .int .i64 t0, .int .i64 t1, .int .i64 a0, .int .i64 a1, .int .i64 n0, .int .i64 n1, .int .i64 v, .bool en, .string tx] 30)).heap.size = w.heap.size + 1 from by simp] at FK
 generalize w.heap.size + 1 = g1 at FK ⊢
 generalize hg : w.heap.size = g at BK FK ⊢
 clear hg
 refine (iv_any _ _ _).mono ?_
 rintro e w1 ⟨rfl, hb⟩
 replace HB := am (below_step HB.out hb)
 replace BK := am (blk_below BK.out hb)
 replace FK := am (blk_below FK.out hb)
 clear hb
 have hy := blk_cell BK.out
 have hz := blk_cell FK.out
 go_upto_region 6 with (fail)
 clear hy hz
 have WK := am (blk_new w1 (.cells #[.int .i64 i0, .int .i64 i1, .int .i64 10, .int .i64 t0, .int .i64 t1, .int .i64 0, .int .i64 0, .int .i64 0, .int .i64 0, .int .i64 0, .bool false, .string ⟨#[]⟩] 30))
 have NW : g ≠ w1.heap.size := Nat.ne_of_lt (blk_lt BK.out)
 have NF : g1 ≠ w1.heap.size := Nat.ne_of_lt (blk_lt FK.out)
 have LW := am HB.out.size
 replace HB := am (below_alloc HB.out (.cells #[.int .i64 i0, .int .i64 i1, .int .i64 10, .int .i64 t0, .int .i64 t1, .int .i64 0, .int .i64 0, .int .i64 0, .int .i64 0, .int .i64 0, .bool false, .string ⟨#[]⟩] 30))
 replace BK := am (blk_below BK.out (below_alloc (Below.refl _ _) (.cells #[.int .i64 i0, .int .i64 i1, .int .i64 10, .int .i64 t0, .int .i64 t1, .int .i64 0, .int .i64 0, .int .i64 0, .int .i64 0, .int .i64 0, .bool false, .string ⟨#[]⟩] 30)))
 replace FK := am (blk_below FK.out (below_alloc (Below.refl _ _) (.cells #[.int .i64 i0, .int .i64 i1, .int .i64 10, .int .i64 t0, .int .i64 t1, .int .i64 0, .int .i64 0, .int .i64 0, .int .i64 0, .int .i64 0, .bool false, .string ⟨#[]⟩] 30)))
 generalize w1.alloc _ = w2 at HB BK FK WK ⊢
 generalize w1.heap.size = gw at WK NW NF LW ⊢
 have hx := blk_cell WK.out
 have hy := blk_cell BK.out
 have hz := blk_cell FK.out
 have hf := blk_frozen WK.out
 go_upto_region 33 with (fail)
 clear hx hy hz hf
 have q0 : Aside0 (Below w.heap.size w (w2.setCell ⟨gw, 10, none⟩ (.bool en))) := ⟨(below_set (j := 10) (v := .bool en) HB.out LW.out)⟩
 have q1 : Aside0 ((w2.setCell ⟨gw, 10, none⟩ (.bool en)).heap[g]? = some (.cells #[.int .i64 i0, .int .i64 i1, .int .i64 10, .int .i64 t0, .int .i64 t1, .int .i64 a0, .int .i64 a1, .int .i64 n0, .int .i64 n1, .int .i64 v, .bool en, .string tx] 30 (0, 0))) := ⟨(blk_far BK.out (p := ⟨gw, 10, none⟩) NW (.bool en))⟩
 have q2 := am (show (w2.setCell ⟨gw, 10, none⟩ (.bool en)).heap[g1]? = some _ from (blk_far FK.out (p := ⟨gw, 10, none⟩) NF (.bool en)))
 have q3 : Aside0 ((w2.setCell ⟨gw, 10, none⟩ (.bool en)).heap[gw]? = some (.cells #[.int .i64 i0, .int .i64 i1, .int .i64 10, .int .i64 t0, .int .i64 t1, .int .i64 0, .int .i64 0, .int .i64 0, .int .i64 0, .int .i64 0, .bool en, .string ⟨#[]⟩] 30 (0, 0))) := ⟨(blk_set WK.out 10 (.bool en))⟩
 clear HB BK FK WK
 generalize (w2.setCell ⟨gw, 10, none⟩ (.bool en)) = w3 at q0 q1 q2 q3 ⊢
 have HB := q0
 have BK := q1
 have FK := q2
 have WK := q3
 clear q0 q1 q2 q3 NW NF LW
 have hx := blk_cell WK.out
 have hy := blk_cell BK.out
 have hz := blk_cell FK.out
 go_wp2_with (first
  | (go_at_call 43; refine (ref_any _ _ _ _ _ _ _ BK.out).mono ?_; rintro e w1 ⟨rfl, hb⟩; have q0 := am (below_step HB.out hb); have q1 := am (blk_below BK.out hb); have q2 := am (blk_below FK.out hb); have q3 := am (blk_below WK.out hb); clear HB BK FK WK hx hy hz hb; have HB := q0; have BK := q1; have FK := q2; have WK := q3; clear q0 q1 q2 q3; have hx := blk_cell WK.out; have hy := blk_cell BK.out; have hz := blk_cell FK.out)
  | (go_at_call 46; refine (some_any _ _ _ _ _ _ _ _ BK.out FK.out).mono ?_; rintro e w1 ⟨rfl, hb⟩; have q0 := am (below_step HB.out hb); have q1 := am (blk_below BK.out hb); have q2 := am (blk_below FK.out hb); have q3 := am (blk_below WK.out hb); clear HB BK FK WK hx hy hz hb; have HB := q0; have BK := q1; have FK := q2; have WK := q3; clear q0 q1 q2 q3; have hx := blk_cell WK.out; have hy := blk_cell BK.out; have hz := blk_cell FK.out)
  | (go_at_call 47; refine (iw_any _ HN.out _).mono ?_; rintro e w1 ⟨rfl, hb⟩; have q0 := am (below_step HB.out hb); have q1 := am (blk_below BK.out hb); have q2 := am (blk_below FK.out hb); have q3 := am (blk_below WK.out hb); clear HB BK FK WK hx hy hz hb; have HB := q0; have BK := q1; have FK := q2; have WK := q3; clear q0 q1 q2 q3; have hx := blk_cell WK.out; have hy := blk_cell BK.out; have hz := blk_cell FK.out))
 all_goals
  go_ret
  refine ⟨?_, HB.out⟩
  rw [← HR.out]
  first | (simp [vopB, emB, zB, inB, *]; done) | (simp [vopB, emB, zB, inB, *]; grind) | grind [vopB, emB, zB, inB]
set_option maxHeartbeats 4000000 in
set_option maxRecDepth 100000 in
theorem impl_ValidOp.k0 (i0 i1 kd t0 t1 a0 a1 n0 n1 v : Int) (en : Bool) (tx : ByteArray) (hn : tx.size ≤ 9223372036854775807) (w : World) (c1 : vst i0 i1 = false) :
  Calls Try.prog 14 #[.agg #[.int .i64 i0, .int .i64 i1, .int .i64 kd, .int .i64 t0, .int .i64 t1, .int .i64 a0, .int .i64 a1, .int .i64 n0, .int .i64 n1, .int .i64 v, .bool en, .string tx]] w fun e w' => e = .returned (.bool (vopB i0 i1 kd t0 t1 a0 a1 n0 n1 v en tx)) ∧ Below w.heap.size w w' := by
 have hu45 := Try.underlying30
 have hu43 := Try.underlying28
 generalize hR : vopB i0 i1 kd t0 t1 a0 a1 n0 n1 v en tx = R
 have HR := am hR
 clear hR
 have HN := am hn
 clear hn
 go_enter Try.func14, Try.ntmps14
 go_wp2_with fail
 have HB := am (below_alloc (below_alloc (Below.refl w.heap.size w) (.cells #[.int .i64 i0, .int .i64 i1, .int .i64 kd, .int .i64 t0, .int .i64 t1, .int .i64 a0, .int .i64 a1, .int .i64 n0, .int .i64 n1, .int .i64 v, .bool en, .string tx] 30)) (.cells #[.func (Fn.func 43) #[] #[.pointer (some ⟨w.heap.size, 0, none⟩)]] 58))
 have BK := am (blk_below (blk_new w (.cells #[.int .i64 i0, .int .i64 i1, .int .i64 kd, .int .i64 t0, .int .i64 t1, .int .i64 a0, .int .i64 a1, .int .i64 n0, .int .i64 n1, .int .i64 v, .bool en, .string tx] 30)) (below_alloc (Below.refl _ _) (.cells #[.func (Fn.func 43) #[] #[.pointer (some ⟨w.heap.size, 0, none⟩)]] 58)))
 have FK := am (blk_new (w.alloc (.cells #[.int .i64 i0, .int .i64 i1, .int .i64 kd, .int .i64 t0, .int .i64 t1, .int .i64 a0, .int .i64 a1, .int .i64 n0, .int .i64 n1, .int .i64 v, .bool en, .string tx] 30)) (.cells #[.func (Fn.func 43) #[] #[.pointer (some ⟨w.heap.size, 0, none⟩)]] 58))
 generalize (w.alloc _).alloc _ = w0 at HB BK FK ⊢
 rw [show (w.alloc (.cells #[.int .i64 i0, .int .i64 i1, .int .i64 kd, .int .i64 t0, .int .i64 t1, .int .i64 a0, .int .i64 a1, .int .i64 n0, .int .i64 n1, .int .i64 v, .bool en, .string tx] 30)).heap.size = w.heap.size + 1 from by simp] at FK
 generalize w.heap.size + 1 = g1 at FK ⊢
 generalize hg : w.heap.size = g at BK FK ⊢
 clear hg
 refine (iv_any _ _ _).mono ?_
 rintro e w1 ⟨rfl, hb⟩
 replace HB := am (below_step HB.out hb)
 replace BK := am (blk_below BK.out hb)
 replace FK := am (blk_below FK.out hb)
 clear hb
 go_wp2
 go_ret
 refine ⟨?_, HB.out⟩
 rw [← HR.out]
 simp [vopB, c1]
set_option maxHeartbeats 4000000 in
set_option maxRecDepth 100000 in
theorem impl_ValidOp.kx (i0 i1 kd t0 t1 a0 a1 n0 n1 v : Int) (en : Bool) (tx : ByteArray) (hn : tx.size ≤ 9223372036854775807) (w : World) (c1 : vst i0 i1 = true) (h1 : (kd == 1) = false) (h2 : (kd == 2) = false) (h3 : (kd == 3) = false) (h4 : (kd == 4) = false) (h5 : (kd == 5) = false) (h6 : (kd == 6) = false) (h7 : (kd == 7) = false) (h8 : (kd == 8) = false) (h9 : (kd == 9) = false) (h10 : (kd == 10) = false) :
  Calls Try.prog 14 #[.agg #[.int .i64 i0, .int .i64 i1, .int .i64 kd, .int .i64 t0, .int .i64 t1, .int .i64 a0, .int .i64 a1, .int .i64 n0, .int .i64 n1, .int .i64 v, .bool en, .string tx]] w fun e w' => e = .returned (.bool (vopB i0 i1 kd t0 t1 a0 a1 n0 n1 v en tx)) ∧ Below w.heap.size w w' := by
 have hu45 := Try.underlying30
 have hu43 := Try.underlying28
 generalize hR : vopB i0 i1 kd t0 t1 a0 a1 n0 n1 v en tx = R
 have HR := am hR
 clear hR
 have HN := am hn
 clear hn
 go_enter Try.func14, Try.ntmps14
 go_wp2_with fail
 have HB := am (below_alloc (below_alloc (Below.refl w.heap.size w) (.cells #[.int .i64 i0, .int .i64 i1, .int .i64 kd, .int .i64 t0, .int .i64 t1, .int .i64 a0, .int .i64 a1, .int .i64 n0, .int .i64 n1, .int .i64 v, .bool en, .string tx] 30)) (.cells #[.func (Fn.func 43) #[] #[.pointer (some ⟨w.heap.size, 0, none⟩)]] 58))
 have BK := am (blk_below (blk_new w (.cells #[.int .i64 i0, .int .i64 i1, .int .i64 kd, .int .i64 t0, .int .i64 t1, .int .i64 a0, .int .i64 a1, .int .i64 n0, .int .i64 n1, .int .i64 v, .bool en, .string tx] 30)) (below_alloc (Below.refl _ _) (.cells #[.func (Fn.func 43) #[] #[.pointer (some ⟨w.heap.size, 0, none⟩)]] 58)))
 have FK := am (blk_new (w.alloc (.cells #[.int .i64 i0, .int .i64 i1, .int .i64 kd, .int .i64 t0, .int .i64 t1, .int .i64 a0, .int .i64 a1, .int .i64 n0, .int .i64 n1, .int .i64 v, .bool en, .string tx] 30)) (.cells #[.func (Fn.func 43) #[] #[.pointer (some ⟨w.heap.size, 0, none⟩)]] 58))
 generalize (w.alloc _).alloc _ = w0 at HB BK FK ⊢
 rw [show (w.alloc (.cells #[.int .i64 i0, .int .i64 i1, .int .i64 kd, .int .i64 t0, .int .i64 t1, .int .i64 a0, .int .i64 a1, .int .i64 n0, .int .i64 n1, .int .i64 v, .bool en, .string tx] 30)).heap.size = w.heap.size + 1 from by simp] at FK
 generalize w.heap.size + 1 = g1 at FK ⊢
 generalize hg : w.heap.size = g at BK FK ⊢
 clear hg
 refine (iv_any _ _ _).mono ?_
 rintro e w1 ⟨rfl, hb⟩
 replace HB := am (below_step HB.out hb)
 replace BK := am (blk_below BK.out hb)
 replace FK := am (blk_below FK.out hb)
 clear hb
 have hy := blk_cell BK.out
 have hz := blk_cell FK.out
 go_upto_region 6 with (fail)
 clear hy hz
 have WK := am (blk_new w1 (.cells #[.int .i64 i0, .int .i64 i1, .int .i64 kd, .int .i64 t0, .int .i64 t1, .int .i64 0, .int .i64 0, .int .i64 0, .int .i64 0, .int .i64 0, .bool false, .string ⟨#[]⟩] 30))
 have NW : g ≠ w1.heap.size := Nat.ne_of_lt (blk_lt BK.out)
 have NF : g1 ≠ w1.heap.size := Nat.ne_of_lt (blk_lt FK.out)
 have LW := am HB.out.size
 replace HB := am (below_alloc HB.out (.cells #[.int .i64 i0, .int .i64 i1, .int .i64 kd, .int .i64 t0, .int .i64 t1, .int .i64 0, .int .i64 0, .int .i64 0, .int .i64 0, .int .i64 0, .bool false, .string ⟨#[]⟩] 30))
 replace BK := am (blk_below BK.out (below_alloc (Below.refl _ _) (.cells #[.int .i64 i0, .int .i64 i1, .int .i64 kd, .int .i64 t0, .int .i64 t1, .int .i64 0, .int .i64 0, .int .i64 0, .int .i64 0, .int .i64 0, .bool false, .string ⟨#[]⟩] 30)))
 replace FK := am (blk_below FK.out (below_alloc (Below.refl _ _) (.cells #[.int .i64 i0, .int .i64 i1, .int .i64 kd, .int .i64 t0, .int .i64 t1, .int .i64 0, .int .i64 0, .int .i64 0, .int .i64 0, .int .i64 0, .bool false, .string ⟨#[]⟩] 30)))
 generalize w1.alloc _ = w2 at HB BK FK WK ⊢
 generalize w1.heap.size = gw at WK NW NF LW ⊢
 have hx := blk_cell WK.out
 have hy := blk_cell BK.out
 have hz := blk_cell FK.out
 go_wp2
 go_ret
 refine ⟨?_, HB.out⟩
 rw [← HR.out]
 have e : ∀ m : Int, (kd == m) = false → ¬ kd = m := fun m h => by simpa using h
 simp [vopB, e _ h1, e _ h2, e _ h3, e _ h4, e _ h5, e _ h6, e _ h7, e _ h8, e _ h9, e _ h10]
def impl_ValidOp.f (a0_0 a0_1 a0_2 a0_3 a0_4 a0_5 a0_6 a0_7 a0_8 a0_9 : Int) (a0_10 : Bool) (a0_11 : ByteArray) : Option (Bool) := if a0_11.size ≤ 9223372036854775807 then some (vopB a0_0 a0_1 a0_2 a0_3 a0_4 a0_5 a0_6 a0_7 a0_8 a0_9 a0_10 a0_11) else none
theorem impl_ValidOp.calls (a0_0 a0_1 a0_2 a0_3 a0_4 a0_5 a0_6 a0_7 a0_8 a0_9 : Int) (a0_10 : Bool) (a0_11 : ByteArray) (r : Bool) (w : World) (h : impl_ValidOp.f a0_0 a0_1 a0_2 a0_3 a0_4 a0_5 a0_6 a0_7 a0_8 a0_9 a0_10 a0_11 = some r) :
  Calls Try.prog 14 #[.agg #[.int .i64 a0_0, .int .i64 a0_1, .int .i64 a0_2, .int .i64 a0_3, .int .i64 a0_4, .int .i64 a0_5, .int .i64 a0_6, .int .i64 a0_7, .int .i64 a0_8, .int .i64 a0_9, .bool a0_10, .string a0_11]] w fun e w' => e = .returned (.bool r) ∧ Below w.heap.size w w' := by
 unfold impl_ValidOp.f at h
 by_cases hn : a0_11.size ≤ 9223372036854775807
 ·rw [if_pos hn] at h
  obtain rfl := Option.some.inj h
  by_cases c1 : vst a0_0 a0_1 = true
  ·by_cases k1 : a0_2 = 1
   ·subst k1; exact impl_ValidOp.k1 _ _ _ _ _ _ _ _ _ _ _ hn w c1
   by_cases k2 : a0_2 = 2
   ·subst k2; exact impl_ValidOp.k2 _ _ _ _ _ _ _ _ _ _ _ hn w c1
   by_cases k3 : a0_2 = 3
   ·subst k3; exact impl_ValidOp.k3 _ _ _ _ _ _ _ _ _ _ _ hn w c1
   by_cases k4 : a0_2 = 4
   ·subst k4; exact impl_ValidOp.k4 _ _ _ _ _ _ _ _ _ _ _ hn w c1
   by_cases k5 : a0_2 = 5
   ·subst k5; exact impl_ValidOp.k5 _ _ _ _ _ _ _ _ _ _ _ hn w c1
   by_cases k6 : a0_2 = 6
   ·subst k6; exact impl_ValidOp.k6 _ _ _ _ _ _ _ _ _ _ _ hn w c1
   by_cases k7 : a0_2 = 7
   ·subst k7; exact impl_ValidOp.k7 _ _ _ _ _ _ _ _ _ _ _ hn w c1
   by_cases k8 : a0_2 = 8
   ·subst k8; exact impl_ValidOp.k8 _ _ _ _ _ _ _ _ _ _ _ hn w c1
   by_cases k9 : a0_2 = 9
   ·subst k9; exact impl_ValidOp.k9 _ _ _ _ _ _ _ _ _ _ _ hn w c1
   by_cases k10 : a0_2 = 10
   ·subst k10; exact impl_ValidOp.k10 _ _ _ _ _ _ _ _ _ _ _ hn w c1
   exact impl_ValidOp.kx _ _ _ _ _ _ _ _ _ _ _ _ hn w c1 (by simpa using k1) (by simpa using k2) (by simpa using k3) (by simpa using k4) (by simpa using k5) (by simpa using k6) (by simpa using k7) (by simpa using k8) (by simpa using k9) (by simpa using k10)
  ·exact impl_ValidOp.k0 _ _ _ _ _ _ _ _ _ _ _ _ hn w (by simpa using c1)
 ·rw [if_neg hn] at h
  cases h

end Go.Proofs.Ytomigiindmojkaa.QJ

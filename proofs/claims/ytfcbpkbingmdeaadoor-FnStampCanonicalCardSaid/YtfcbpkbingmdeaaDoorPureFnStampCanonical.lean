/- The plain side of the statement FnStampCanonical: the printed functions answer true at every input. Conditions: none beyond the given statement's own. -/
import Derived.Test.YtfcbpkbingmdeaaDoorQRx17
import Derived.Test.YtfcbpkbingmdeaaDoorBase
namespace Go.Proofs.YtfcbpkbingmdeaaDoor.Pure
open Go.RowKit Go.Proofs.YtfcbpkbingmdeaaDoor.QR Go.Proofs.YtfcbpkbingmdeaaDoorW.PrintWords Go.Proofs.YtfcbpkbingmdeaaDoorW.PrintLast Go.Proofs.YtfcbpkbingmdeaaDoor.Base
set_option linter.unusedVariables false
set_option linter.unusedSimpArgs false

theorem eq_spec_inRange (a lo hi : Int) : spec_inRange.f a lo hi = some (decide (lo ≤ a ∧ a ≤ hi)) := by
  unfold spec_inRange.f
  by_cases h : lo ≤ a <;> simp [h]
theorem eq_impl_isAuthor (a : Int) : impl_isAuthor.f a = some (decide (0 ≤ a ∧ a ≤ 2)) := by
  unfold impl_isAuthor.f
  by_cases h : 0 ≤ a
  · rw [if_pos h]
    by_cases h' : a ≤ 2
    · rw [decide_eq_true (show a < 3 by omega), decide_eq_true (⟨h, h'⟩ : 0 ≤ a ∧ a ≤ 2)]
    · rw [decide_eq_false (show ¬ a < 3 by omega), decide_eq_false (fun hh => h' hh.2)]
  · rw [if_neg h, decide_eq_false (fun hh => h hh.1)]
theorem xorOk (a b : Int) (ha : 0 ≤ a ∧ a < 4611686018427387904) (hb : 0 ≤ b ∧ b < 4611686018427387904) : 0 ≤ Go.bits .xor .i64 a b := by
  obtain ⟨x, rfl⟩ := Int.eq_ofNat_of_zero_le ha.1
  obtain ⟨y, rfl⟩ := Int.eq_ofNat_of_zero_le hb.1
  have hx : x < 2 ^ 62 := by omega
  have hy : y < 2 ^ 62 := by omega
  have hz := Nat.xor_lt_two_pow hx hy
  have e : Go.bits .xor .i64 (x : Int) (y : Int) = ((x ^^^ y : Nat) : Int) := by
    simp only [Go.bits, BitVec.ofInt_natCast, BitVec.toNat_xor, BitVec.toNat_ofNat]
    rw [Nat.mod_eq_of_lt (show x < 2 ^ IntKind.i64.bits from Nat.lt_of_lt_of_le hx (by decide)), Nat.mod_eq_of_lt (show y < 2 ^ IntKind.i64.bits from Nat.lt_of_lt_of_le hy (by decide)), IntKind.wrap_i64]
    omega
  rw [e]; omega
/-- What a reader may hold: at most 2000 bytes. -/
structure BOk (b : List Int) : Prop where
  len : b.length ≤ 2000
  byte : ∀ x ∈ b, 0 ≤ x ∧ x ≤ 255
theorem BOk.rd {b : List Int} (h : BOk b) {i : Int} (h0 : 0 ≤ i) (h1 : i < b.length) : 0 ≤ Go.Proofs.YtfcbpkbingmdeaaDoorW.PrintWords.rd b i ∧ Go.Proofs.YtfcbpkbingmdeaaDoorW.PrintWords.rd b i ≤ 255 := by
  obtain ⟨n, rfl⟩ := Int.eq_ofNat_of_zero_le h0
  rw [rdAt _ _ (by omega)]
  exact h.byte _ (List.getElem_mem _)
theorem wf_u8 {l : List Int} (h : ∀ x ∈ l, (Lit.int .u8 x).wf = true) : ∀ x ∈ l, 0 ≤ x ∧ x ≤ 255 := fun x hx => by
  have := h x hx
  simp [Lit.wf, IntKind.min, IntKind.max, IntKind.bits, IntKind.signed] at this
  omega
theorem ok_spec_newReader (l : List Int) (h : ∀ x ∈ l, (Lit.int .u8 x).wf = true) : ∃ b, spec_newReader.f l = some (b, 0) ∧ BOk b := by
  unfold spec_newReader.f
  by_cases hn : (l.length : Int) > 2000
  · rw [if_pos hn, if_pos (by omega)]
    exact ⟨_, rfl, ⟨by simp; omega, fun x hx => wf_u8 h x (List.mem_of_mem_take hx)⟩⟩
  · rw [if_neg hn]
    exact ⟨_, rfl, ⟨by omega, wf_u8 h⟩⟩
theorem ok_spec_reader_pick {b : List Int} (hb : BOk b) (p n : Int) (h0 : 0 ≤ p) (h1 : p ≤ 1000000000000) : ∃ v, Ev (fun k => spec_reader_pick.f k b p n) (v, p + 1) ∧ 0 ≤ v ∧ (1 ≤ n → v < n) ∧ (n < 1 → v = 0) := by
  have e1 : wrap64 (p + 1) = p + 1 := wrapId (by omega) (by omega)
  have e2 : wrap64 (p + 1 - 1) = p := by rw [wrapId (by omega) (by omega)]; omega
  unfold spec_reader_pick.f
  rw [e1]
  by_cases hn : n < 1
  · exact ⟨0, evIf hn (evSucc (by simp only [spec_reader_pick.j0, if_true]; exact Ev.now _)), by omega, fun h => by omega, fun _ => rfl⟩
  by_cases hz : b.length = 0
  · refine ⟨0, evElse hn (evSucc (by simp only [spec_reader_pick.j0, hz]; exact Ev.now _)), by omega, fun h => by omega, fun _ => rfl⟩
  have hn' : (0 : Int) < n := by omega
  by_cases hlt : p < (b.length : Int)
  · obtain ⟨r0, r1⟩ := hb.rd h0 hlt
    refine ⟨Int.tmod (Go.Proofs.YtfcbpkbingmdeaaDoorW.PrintWords.rd b p) n, evElse hn (Ev.step (fun _ => rfl) (evElse (by simp; intro h; simp [h] at hz) ?_)), Int.tmod_nonneg _ r0, fun _ => Int.tmod_lt_of_pos _ hn', fun h => absurd h hn⟩
    rw [e2]
    refine evIf hlt (evIf h0 (evElse (by omega) (evSome ?_)))
    rw [wrapId (by omega) (by omega)]
  · have hL : (0 : Int) < b.length := by omega
    have k0 : 0 ≤ Int.tmod p b.length := Int.tmod_nonneg _ h0
    have k1 : Int.tmod p b.length < b.length := Int.tmod_lt_of_pos _ hL
    have e3 : wrap64 (p * 7) = p * 7 := wrapId (by omega) (by omega)
    have e4 : wrap64 (p * 7 + 3) = p * 7 + 3 := wrapId (by omega) (by omega)
    have j0 : 0 ≤ Int.tmod (p * 7 + 3) b.length := Int.tmod_nonneg _ (by omega)
    have j1 : Int.tmod (p * 7 + 3) b.length < b.length := Int.tmod_lt_of_pos _ hL
    obtain ⟨r0, r1⟩ := hb.rd k0 k1
    obtain ⟨s0, s1⟩ := hb.rd j0 j1
    have d0 : 0 ≤ Int.tdiv p b.length := Int.tdiv_nonneg h0 (by omega)
    have d1 : Int.tdiv p b.length ≤ p := by
      rw [Int.tdiv_eq_ediv_of_nonneg h0]; exact Int.ediv_le_self _ h0
    generalize hR : Go.Proofs.YtfcbpkbingmdeaaDoorW.PrintWords.rd b (Int.tmod p b.length) = R at r0 r1
    generalize hS : Go.Proofs.YtfcbpkbingmdeaaDoorW.PrintWords.rd b (Int.tmod (p * 7 + 3) b.length) = S at s0 s1
    generalize hD : Int.tdiv p b.length = D at d0 d1
    have f1 : wrap64 (wrap64 (wrap64 (wrap64 (wrap64 R * 131) + wrap64 (wrap64 S * 1117)) + wrap64 (p * 29)) + wrap64 (wrap64 D * 53)) = R * 131 + S * 1117 + p * 29 + D * 53 := by
      rw [wrapId (x := R) (by omega) (by omega), wrapId (x := S) (by omega) (by omega), wrapId (x := D) (by omega) (by omega), wrapId (x := R * 131) (by omega) (by omega), wrapId (x := S * 1117) (by omega) (by omega), wrapId (x := D * 53) (by omega) (by omega), wrapId (x := p * 29) (by omega) (by omega), wrapId (x := R * 131 + S * 1117) (by omega) (by omega), wrapId (x := R * 131 + S * 1117 + p * 29) (by omega) (by omega), wrapId (by omega) (by omega)]
    have t0 : 0 ≤ Int.tdiv (R * 131 + S * 1117 + p * 29 + D * 53) 64 := Int.tdiv_nonneg (by omega) (by omega)
    have t1 : Int.tdiv (R * 131 + S * 1117 + p * 29 + D * 53) 64 ≤ R * 131 + S * 1117 + p * 29 + D * 53 := by
      rw [Int.tdiv_eq_ediv_of_nonneg (by omega)]; exact Int.ediv_le_self _ (by omega)
    have hx := xorOk (R * 131 + S * 1117 + p * 29 + D * 53) (Int.tdiv (R * 131 + S * 1117 + p * 29 + D * 53) 64) (by omega) (by omega)
    refine ⟨Int.tmod (Go.bits .xor .i64 (R * 131 + S * 1117 + p * 29 + D * 53) (Int.tdiv (R * 131 + S * 1117 + p * 29 + D * 53) 64)) n, evElse hn (Ev.step (fun _ => rfl) (evElse (by simp; intro h; simp [h] at hz) ?_)), Int.tmod_nonneg _ hx, fun _ => Int.tmod_lt_of_pos _ hn', fun h => absurd h hn⟩
    rw [e2]
    refine evElse hlt (evElse (by omega) (evIf k0 (evIf k1 ?_)))
    rw [e3, e4]
    refine evIf j0 (evIf j1 (evElse (by omega) (evSome ?_)))
    rw [hR, hS, hD, f1, wrapId (x := Int.tdiv _ 64) (by omega) (by omega)]
theorem eq_spec_validStamp (a b : Int) : spec_validStamp.f a b = some (vst a b) := by
  unfold spec_validStamp.f vst
  simp only [eq_spec_inRange, Option.bind_some]
  by_cases h : 1 ≤ a ∧ a ≤ 99
  · simp only [h, decide_true, if_true, and_self, true_and]
  · simp only [h, decide_false, Bool.false_eq_true, if_false, false_and]
theorem eq_impl_ValidStamp (a b : Int) : impl_ValidStamp.f a b = some (vst a b) := by
  unfold impl_ValidStamp.f vst
  simp only [eq_impl_isAuthor, Option.bind_some]
  by_cases h : 1 ≤ a
  · by_cases h' : a ≤ 99
    · simp only [ge_iff_le, h, h', if_true, and_self, true_and]
    · simp only [ge_iff_le, h, h', if_true, if_false, and_false, false_and, decide_false]
  · simp only [ge_iff_le, h, if_false, false_and, decide_false]
theorem ok_spec_reader_one {b : List Int} (hb : BOk b) (p : Int) (h0 : 0 ≤ p) (h1 : p ≤ 1000000000000) (l : List Int) (hl : 0 < l.length) : ∃ v, v ∈ l ∧ Ev (fun k => spec_reader_one.f k b p l) (v, p + 1) := by
  obtain ⟨v, hv, v0, v1, _⟩ := ok_spec_reader_pick hb p (l.length : Int) h0 h1
  have hlt : v < (l.length : Int) := v1 (by omega)
  refine ⟨Go.Proofs.YtfcbpkbingmdeaaDoorW.PrintWords.rd l v, ?_, ?_⟩
  · obtain ⟨n, rfl⟩ := Int.eq_ofNat_of_zero_le v0
    rw [rdAt _ _ (by omega)]
    exact List.getElem_mem _
  · unfold spec_reader_one.f
    exact evBind hv (evIf v0 (evIf hlt (Ev.now _)))
theorem ok_spec_randomStamp {b : List Int} (hb : BOk b) (p : Int) (h0 : 0 ≤ p) (h1 : p ≤ 200000000000) : ∃ x y, Ev (fun k => spec_randomStamp.f k b p) (x, y, p + 2) ∧ x ∈ ([1, 2, 3, 5, 9, 99] : List Int) ∧ 0 ≤ y ∧ y ≤ 2 := by
  obtain ⟨x, hx, ex⟩ := ok_spec_reader_one hb p h0 (by omega) [1, 2, 3, 5, 9, 99] (by decide)
  obtain ⟨y, ey, y0, y1, _⟩ := ok_spec_reader_pick hb (p + 1) 3 (by omega) (by omega)
  refine ⟨x, y, ?_, hx, y0, by have := y1 (by omega); omega⟩
  unfold spec_randomStamp.f
  exact evBind ex (evBind ey (evSome (by simp; omega)))
theorem ok_spec_anyStamp {b : List Int} (hb : BOk b) (p : Int) (h0 : 0 ≤ p) (h1 : p ≤ 100000000000) : ∃ x y q, Ev (fun k => spec_anyStamp.f k b p) (x, y, q) ∧ p ≤ q ∧ q ≤ p + 3 := by
  obtain ⟨v, ev, _⟩ := ok_spec_reader_pick hb p 8 h0 (by omega)
  unfold spec_anyStamp.f
  by_cases c0 : v = 0
  · exact ⟨0, 0, p + 1, evBind ev (evIf c0 (Ev.now _)), by omega, by omega⟩
  by_cases c1 : v = 1
  · obtain ⟨x, hx, ex⟩ := ok_spec_reader_one hb (p + 1) (by omega) (by omega) [0, 100, -1] (by decide)
    obtain ⟨y, ey, _⟩ := ok_spec_reader_pick hb (p + 1 + 1) 3 (by omega) (by omega)
    exact ⟨x, y, p + 1 + 1 + 1, evBind ev (evElse c0 (evIf c1 (evBind ex (evBind ey (Ev.now _))))), by omega, by omega⟩
  by_cases c2 : v = 2
  · obtain ⟨x, hx, ex⟩ := ok_spec_reader_one hb (p + 1) (by omega) (by omega) [3, -1] (by decide)
    exact ⟨4, x, p + 1 + 1, evBind ev (evElse c0 (evElse c1 (evIf c2 (evBind ex (Ev.now _))))), by omega, by omega⟩
  · obtain ⟨x, y, e, _⟩ := ok_spec_randomStamp hb (p + 1) (by omega) (by omega)
    exact ⟨x, y, p + 1 + 2, evBind ev (evElse c0 (evElse c1 (evElse c2 (evBind e (Ev.now _))))), by omega, by omega⟩
theorem strOfNums_app (xs ys : List Int) : strOfNums xs ++ strOfNums ys = strOfNums (xs ++ ys) := by
  apply ByteArray.ext
  apply Array.ext'
  simp [strOfNums]
theorem strOfNums_list (xs : List Int) : (strOfNums xs).toList = xs.map fun n => UInt8.ofNat n.toNat := by
  rw [ByteArray.toList_eq]; rfl
/-- A number of 0 to 99 in decimal, as bytes. -/
def dec (q : Int) : List Int := if q < 10 then [48 + q] else [48 + q / 10, 48 + q % 10]
/-- A valid stamp's text, as bytes. -/
def encL (q a : Int) : List Int := dec q ++ [97 + a]
theorem dec_length (q : Int) : 1 ≤ (dec q).length ∧ (dec q).length ≤ 2 := by unfold dec; split <;> simp
/-- The text of a stamp, valid or zero, else the empty text. -/
def encS (q a : Int) : ByteArray := if vst q a = true then strOfNums (encL q a) else if q = 0 ∧ a = 0 then ⟨#[45]⟩ else ⟨#[]⟩
theorem encS_size (q a : Int) : (encS q a).size ≤ 3 := by
  unfold encS
  split
  · rw [strOfNums_size]; have := dec_length q; simp [encL]; omega
  · split
    · decide
    · decide
theorem byteBack (x : UInt8) (n : Int) (h : n = (x.toNat : Int)) : UInt8.ofNat n.toNat = x := by
  subst h; simp
/-- One digit; two digits without a leading zero. -/
def num1 (x : UInt8) : Option Int := if 48 ≤ (x.toNat : Int) ∧ (x.toNat : Int) ≤ 57 then some ((x.toNat : Int) - 48) else none
def num2 (x y : UInt8) : Option Int := if (49 ≤ (x.toNat : Int) ∧ (x.toNat : Int) ≤ 57) ∧ 48 ≤ (y.toNat : Int) ∧ (y.toNat : Int) ≤ 57 then some (((x.toNat : Int) - 48) * 10 + ((y.toNat : Int) - 48)) else none
theorem bt1 (x : UInt8) : bt ⟨#[x]⟩ 0 = (x.toNat : Int) := (bt_at ⟨#[x]⟩ 0 (show (0 : Nat) < 1 by omega)).symm
theorem sz1 (x : UInt8) : ((⟨#[x]⟩ : ByteArray).size : Int) = 1 := rfl
theorem sz2 (x y : UInt8) : ((⟨#[x, y]⟩ : ByteArray).size : Int) = 2 := rfl
theorem w0 : wrap64 0 = 0 := wrapId (by omega) (by omega)
theorem w01 : wrap64 (0 + 1) = 1 := wrapId (by omega) (by omega)
theorem w11 : wrap64 (1 + 1) = 2 := wrapId (by omega) (by omega)
theorem bt2_0 (x y : UInt8) : bt ⟨#[x, y]⟩ 0 = (x.toNat : Int) := (bt_at ⟨#[x, y]⟩ 0 (show (0 : Nat) < 2 by omega)).symm
theorem bt2_1 (x y : UInt8) : bt ⟨#[x, y]⟩ 1 = (y.toNat : Int) := (bt_at ⟨#[x, y]⟩ 1 (show (1 : Nat) < 2 by omega)).symm
theorem ev_spec_formatInt1 (q : Int) (h0 : 0 ≤ q) (h1 : q < 10) : Ev (fun k => spec_formatInt.f k q) (strOfNums [48 + q]) := by
  refine Ev.step (fun _ => rfl) (evElse (by omega) (evElse (by omega) (evIf (by omega) (evSome ?_))))
  rw [wrapId (by omega) (by omega)]
  congr 1
  rw [Int.emod_eq_of_lt (by omega) (by omega)]
theorem ev_spec_formatInt (q : Int) (h0 : 0 ≤ q) (h1 : q ≤ 99) : Ev (fun k => spec_formatInt.f k q) (strOfNums (dec q)) := by
  unfold dec
  by_cases h : q < 10
  · rw [if_pos h]; exact ev_spec_formatInt1 q h0 h
  rw [if_neg h]
  have e1 : wrap64 (Int.tdiv q 10) = q / 10 := by rw [Int.tdiv_eq_ediv_of_nonneg h0, wrapId (by omega) (by omega)]
  have e2 : wrap64 (48 + Int.tmod q 10) % 256 = 48 + q % 10 := by rw [Int.tmod_eq_emod_of_nonneg h0, wrapId (by omega) (by omega), Int.emod_eq_of_lt (by omega) (by omega)]
  refine Ev.step (fun _ => rfl) (evElse (by omega) (evElse (by omega) (evElse (by omega) ?_)))
  rw [e1, e2]
  refine evBind (ev_spec_formatInt1 (q / 10) (by omega) (by omega)) (evPut rfl (evIf (by simp only [strOfNums_size]; simp) (evSome ?_)))
  rw [strOfNums_app]; rfl
theorem ev_spec_formatStamp (q a : Int) (h : vst q a = true) : Ev (fun k => spec_formatStamp.f k q a) (strOfNums (encL q a)) := by
  simp only [vst, decide_eq_true_eq] at h
  unfold spec_formatStamp.f
  refine evElse (by omega) (evBind (ev_spec_formatInt q (by omega) (by omega)) (evPut rfl (evIf ?_ (evSome ?_))))
  · have := dec_length q
    simp only [strOfNums_size, List.length_singleton]; omega
  · rw [wrapId (by omega) (by omega), Int.emod_eq_of_lt (by omega) (by omega), strOfNums_app]; rfl
theorem ev_spec_EncodeStamp (q a : Int) : Ev (fun k => spec_EncodeStamp.f k q a) (encS q a) := by
  unfold spec_EncodeStamp.f encS
  refine evPut (eq_spec_validStamp _ _) ?_
  cases h : vst q a with
  | true => exact evIf (by rfl) (evBind (ev_spec_formatStamp q a h) (Ev.now _))
  | false =>
    refine evElse (by simp) ?_
    by_cases hz : q = 0 ∧ a = 0
    · obtain ⟨rfl, rfl⟩ := hz
      refine evElse (by simp) ?_
      have e : ∀ k, spec_formatStamp.f k 0 0 = some ⟨#[45]⟩ := fun k => by unfold spec_formatStamp.f; simp
      exact evBind (Ev.congr e (Ev.now _)) (Ev.now _)
    · refine evIf (by simp; omega) (evSome ?_)
      rw [if_neg (by simp), if_neg hz]
theorem ok_spec_parseUint_l0 (s : ByteArray) (hn : s.size ≤ 2000000) : ∀ (d i : Nat) (x : Int), i + d = s.size → ∃ v, Ev (fun k => spec_parseUint.l0 k s x (i : Int)) v := by
  intro d
  induction d with
  | zero =>
    intro i x hi
    by_cases c0 : (s.size : Int) = 0
    · exact ⟨_, Ev.step (fun _ => rfl) (evElse (by omega) (evIf c0 (Ev.now _)))⟩
    by_cases c1 : (s.size : Int) > 1
    · by_cases c2 : bt s 0 = 48
      · exact ⟨_, Ev.step (fun _ => rfl) (evElse (by omega) (evElse c0 (evIf c1 (evIf (by omega) (evIf c2 (Ev.now _))))))⟩
      · exact ⟨_, Ev.step (fun _ => rfl) (evElse (by omega) (evElse c0 (evIf c1 (evIf (by omega) (evElse c2 (Ev.now _))))))⟩
    · exact ⟨_, Ev.step (fun _ => rfl) (evElse (by omega) (evElse c0 (evElse c1 (Ev.now _))))⟩
  | succ d ih =>
    intro i x hi
    by_cases c0 : bt s (i : Int) < 48
    · exact ⟨_, Ev.step (fun _ => rfl) (evIf (by omega) (evIf (by omega) (evIf c0 (Ev.now _))))⟩
    by_cases c1 : bt s (i : Int) > 57
    · exact ⟨_, Ev.step (fun _ => rfl) (evIf (by omega) (evIf (by omega) (evElse c0 (evIf c1 (Ev.now _)))))⟩
    by_cases c2 : (i : Int) ≥ 6
    · exact ⟨_, Ev.step (fun _ => rfl) (evIf (by omega) (evIf (by omega) (evElse c0 (evElse c1 (evIf c2 (Ev.now _))))))⟩
    · obtain ⟨v, hv⟩ := ih (i + 1) (wrap64 (wrap64 (x * 10) + (bt s (i : Int) - 48) % 256)) (by omega)
      refine ⟨v, Ev.step (fun _ => rfl) (evIf (by omega) (evIf (by omega) (evElse c0 (evElse c1 (evElse c2 ?_)))))⟩
      rw [wrapSucc i (by omega)]
      exact hv
theorem ok_spec_parseUint (s : ByteArray) (hn : s.size ≤ 2000000) : ∃ v, Ev (fun k => spec_parseUint.f k s) v := ok_spec_parseUint_l0 s hn s.size 0 0 (by omega)
theorem ev_spec_parseUint1 (x : UInt8) : Ev (fun k => spec_parseUint.f k ⟨#[x]⟩) ((num1 x).getD (-1)) := by
  have hb := bt1 x
  have s1 := sz1 x
  have w1 := w01
  have hx := x.toNat_lt
  unfold spec_parseUint.f num1
  by_cases c0 : (x.toNat : Int) < 48
  · rw [if_neg (by omega)]
    exact Ev.step (fun _ => rfl) (evIf (by omega) (evIf (by omega) (evIf (by rw [hb]; exact c0) (Ev.now _))))
  by_cases c1 : (x.toNat : Int) > 57
  · rw [if_neg (by omega)]
    exact Ev.step (fun _ => rfl) (evIf (by omega) (evIf (by omega) (evElse (by rw [hb]; exact c0) (evIf (by rw [hb]; exact c1) (Ev.now _)))))
  rw [if_pos (by omega)]
  refine Ev.step (fun _ => rfl) (evIf (by omega) (evIf (by omega) (evElse (by rw [hb]; exact c0) (evElse (by rw [hb]; exact c1) (evElse (by omega) ?_)))))
  refine Ev.step (fun _ => rfl) (evElse (by omega) (evElse (by omega) (evElse (by omega) (evSome ?_))))
  rw [hb, Int.emod_eq_of_lt (by omega) (by omega)]
  simp only [Int.zero_mul]
  rw [w0, wrapId (by omega) (by omega)]
  simp
theorem ev_spec_parseUint2 (x y : UInt8) : Ev (fun k => spec_parseUint.f k ⟨#[x, y]⟩) ((num2 x y).getD (-1)) := by
  have hb := bt2_0 x y
  have s2 := sz2 x y
  have w1 := w01
  have w2 := w11
  have hc := bt2_1 x y
  have hx := x.toNat_lt
  have hy := y.toNat_lt
  unfold spec_parseUint.f num2
  by_cases c0 : (x.toNat : Int) < 48
  · rw [if_neg (by omega)]
    exact Ev.step (fun _ => rfl) (evIf (by omega) (evIf (by omega) (evIf (by rw [hb]; exact c0) (Ev.now _))))
  by_cases c1 : (x.toNat : Int) > 57
  · rw [if_neg (by omega)]
    exact Ev.step (fun _ => rfl) (evIf (by omega) (evIf (by omega) (evElse (by rw [hb]; exact c0) (evIf (by rw [hb]; exact c1) (Ev.now _)))))
  refine Ev.step (fun _ => rfl) (evIf (by omega) (evIf (by omega) (evElse (by rw [hb]; exact c0) (evElse (by rw [hb]; exact c1) (evElse (by omega) ?_)))))
  rw [hb, Int.emod_eq_of_lt (show 0 ≤ (x.toNat : Int) - 48 by omega) (by omega)]
  simp only [Int.zero_mul]
  rw [w0, Int.zero_add, wrapId (x := (x.toNat : Int) - 48) (by omega) (by omega), w01]
  by_cases d0 : (y.toNat : Int) < 48
  · rw [if_neg (by omega)]
    exact Ev.step (fun _ => rfl) (evIf (by omega) (evIf (by omega) (evIf (by rw [hc]; exact d0) (Ev.now _))))
  by_cases d1 : (y.toNat : Int) > 57
  · rw [if_neg (by omega)]
    exact Ev.step (fun _ => rfl) (evIf (by omega) (evIf (by omega) (evElse (by rw [hc]; exact d0) (evIf (by rw [hc]; exact d1) (Ev.now _)))))
  refine Ev.step (fun _ => rfl) (evIf (by omega) (evIf (by omega) (evElse (by rw [hc]; exact d0) (evElse (by rw [hc]; exact d1) (evElse (by omega) ?_)))))
  rw [hc, Int.emod_eq_of_lt (show 0 ≤ (y.toNat : Int) - 48 by omega) (by omega), wrapId (x := ((x.toNat : Int) - 48) * 10) (by omega) (by omega), wrapId (x := ((x.toNat : Int) - 48) * 10 + ((y.toNat : Int) - 48)) (by omega) (by omega), w11]
  by_cases z : (x.toNat : Int) = 48
  · rw [if_neg (by omega)]
    exact Ev.step (fun _ => rfl) (evElse (by omega) (evElse (by omega) (evIf (by omega) (evIf (by omega) (evIf (by rw [hb]; exact z) (Ev.now _))))))
  · rw [if_pos (by omega)]
    exact Ev.step (fun _ => rfl) (evElse (by omega) (evElse (by omega) (evIf (by omega) (evIf (by omega) (evElse (by rw [hb]; exact z) (Ev.now _))))))
theorem ev_impl_number1 (x : UInt8) : Ev (fun k => impl_number.f k ⟨#[x]⟩) (match num1 x with | some n => (n, true) | none => (0, false)) := by
  have hb := bt1 x
  have s1 := sz1 x
  have w1 := w01
  have hx := x.toNat_lt
  unfold impl_number.f num1
  refine evElse (by omega) (evElse (by omega) (evElse (by omega) (evSucc ?_)))
  simp only [impl_number.j0, Bool.false_eq_true, if_false]
  by_cases c0 : (x.toNat : Int) < 48
  · rw [if_neg (by omega)]
    exact Ev.step (fun _ => rfl) (evIf (by omega) (evIf (by omega) (evIf (by rw [hb]; exact c0) (Ev.now _))))
  by_cases c1 : (x.toNat : Int) > 57
  · rw [if_neg (by omega)]
    exact Ev.step (fun _ => rfl) (evIf (by omega) (evIf (by omega) (evElse (by rw [hb]; exact c0) (evIf (by rw [hb]; exact c1) (Ev.now _)))))
  rw [if_pos (by omega)]
  refine Ev.step (fun _ => rfl) (evIf (by omega) (evIf (by omega) (evElse (by rw [hb]; exact c0) (evElse (by rw [hb]; exact c1) ?_))))
  refine Ev.step (fun _ => rfl) (evElse (by omega) (evSome ?_))
  rw [hb, Int.emod_eq_of_lt (by omega) (by omega)]
  simp only [Int.zero_mul]
  rw [w0, wrapId (by omega) (by omega)]
  simp
theorem ev_impl_number2 (x y : UInt8) : Ev (fun k => impl_number.f k ⟨#[x, y]⟩) (match num2 x y with | some n => (n, true) | none => (0, false)) := by
  have hb := bt2_0 x y
  have s2 := sz2 x y
  have w1 := w01
  have w2 := w11
  have hc := bt2_1 x y
  have hx := x.toNat_lt
  have hy := y.toNat_lt
  unfold impl_number.f num2
  refine evElse (by omega) (evElse (by omega) (evIf (by omega) (evIf (by omega) ?_)))
  by_cases z : (x.toNat : Int) = 48
  · rw [if_neg (by omega), hb, show ((x.toNat : Int) == 48) = true from by simp [z]]
    exact evSucc (by simp only [impl_number.j0, if_true]; exact Ev.now _)
  rw [hb, show ((x.toNat : Int) == 48) = false from by simp [z]]
  refine evSucc ?_
  simp only [impl_number.j0, Bool.false_eq_true, if_false]
  by_cases c0 : (x.toNat : Int) < 48
  · rw [if_neg (by omega)]
    exact Ev.step (fun _ => rfl) (evIf (by omega) (evIf (by omega) (evIf (by rw [hb]; exact c0) (Ev.now _))))
  by_cases c1 : (x.toNat : Int) > 57
  · rw [if_neg (by omega)]
    exact Ev.step (fun _ => rfl) (evIf (by omega) (evIf (by omega) (evElse (by rw [hb]; exact c0) (evIf (by rw [hb]; exact c1) (Ev.now _)))))
  refine Ev.step (fun _ => rfl) (evIf (by omega) (evIf (by omega) (evElse (by rw [hb]; exact c0) (evElse (by rw [hb]; exact c1) ?_))))
  rw [hb, Int.emod_eq_of_lt (show 0 ≤ (x.toNat : Int) - 48 by omega) (by omega)]
  simp only [Int.zero_mul]
  rw [w0, Int.zero_add, wrapId (x := (x.toNat : Int) - 48) (by omega) (by omega), w01]
  by_cases d0 : (y.toNat : Int) < 48
  · rw [if_neg (by omega)]
    exact Ev.step (fun _ => rfl) (evIf (by omega) (evIf (by omega) (evIf (by rw [hc]; exact d0) (Ev.now _))))
  by_cases d1 : (y.toNat : Int) > 57
  · rw [if_neg (by omega)]
    exact Ev.step (fun _ => rfl) (evIf (by omega) (evIf (by omega) (evElse (by rw [hc]; exact d0) (evIf (by rw [hc]; exact d1) (Ev.now _)))))
  rw [if_pos (by omega)]
  refine Ev.step (fun _ => rfl) (evIf (by omega) (evIf (by omega) (evElse (by rw [hc]; exact d0) (evElse (by rw [hc]; exact d1) ?_))))
  rw [hc, Int.emod_eq_of_lt (show 0 ≤ (y.toNat : Int) - 48 by omega) (by omega), wrapId (x := ((x.toNat : Int) - 48) * 10) (by omega) (by omega), wrapId (x := ((x.toNat : Int) - 48) * 10 + ((y.toNat : Int) - 48)) (by omega) (by omega), w11]
  exact Ev.step (fun _ => rfl) (evElse (by omega) (Ev.now _))
/-- What decoding a text gives: the stamp and whether it is one. -/
def decS : List UInt8 → Int × Int × Bool
  | [c] => if c = 45 then (0, 0, true) else (0, 0, false)
  | [x, c] => match num1 x with | some n => if vst n ((c.toNat : Int) - 97) = true then (n, (c.toNat : Int) - 97, true) else (0, 0, false) | none => (0, 0, false)
  | [x, y, c] => match num2 x y with | some n => if vst n ((c.toNat : Int) - 97) = true then (n, (c.toNat : Int) - 97, true) else (0, 0, false) | none => (0, 0, false)
  | _ => (0, 0, false)
theorem decS_1 (c : UInt8) : decS [c] = if c = 45 then (0, 0, true) else (0, 0, false) := rfl
theorem decS_2 (x c : UInt8) : decS [x, c] = match num1 x with | some n => if vst n ((c.toNat : Int) - 97) = true then (n, (c.toNat : Int) - 97, true) else (0, 0, false) | none => (0, 0, false) := rfl
theorem decS_3 (x y c : UInt8) : decS [x, y, c] = match num2 x y with | some n => if vst n ((c.toNat : Int) - 97) = true then (n, (c.toNat : Int) - 97, true) else (0, 0, false) | none => (0, 0, false) := rfl
theorem wrapByte (c : UInt8) : wrap64 (wrap64 (c.toNat : Int) - 97) = (c.toNat : Int) - 97 := by
  have := c.toNat_lt
  rw [wrapId (x := (c.toNat : Int)) (by omega) (by omega), wrapId (by omega) (by omega)]
theorem bt3_2 (x y z : UInt8) : bt ⟨#[x, y, z]⟩ 2 = (z.toNat : Int) := (bt_at ⟨#[x, y, z]⟩ 2 (show (2 : Nat) < 3 by omega)).symm
theorem ext2 (x c : UInt8) : (⟨#[x, c]⟩ : ByteArray).extract 0 1 = ⟨#[x]⟩ := by apply ByteArray.ext; simp
theorem ext3 (x y c : UInt8) : (⟨#[x, y, c]⟩ : ByteArray).extract 0 2 = ⟨#[x, y]⟩ := by apply ByteArray.ext; simp
theorem ev_impl_DecodeStamp (l : List UInt8) (hn : l.length ≤ 2000000) : Ev (fun k => impl_DecodeStamp.f k ⟨⟨l⟩⟩) (decS l) := by
  have hsz : (⟨⟨l⟩⟩ : ByteArray).size = l.length := rfl
  have htl : (⟨⟨l⟩⟩ : ByteArray).toList = l := by rw [ByteArray.toList_eq]
  have hno : Ev (fun k => impl_DecodeStamp.j0 k ⟨⟨l⟩⟩ true) (0, 0, false) := evSucc (by simp only [impl_DecodeStamp.j0, if_true]; exact Ev.now _)
  unfold impl_DecodeStamp.f
  rw [htl, hsz]
  match l, hn with
  | [], _ => exact evElse (by simp) (evIf (by simp) hno)
  | [c], _ =>
    rw [decS_1]
    by_cases h : c = 45
    · subst h; exact evIf (by rfl) (evSome (by simp))
    · rw [if_neg h]; exact evElse (by simpa using h) (evIf (by simp) hno)
  | [x, c], _ =>
    refine evElse (by simp) (evElse (by simp) ?_)
    rw [show decide ((([x, c] : List UInt8).length : Int) > 3) = false from by simp]
    refine evSucc ?_
    simp only [impl_DecodeStamp.j0, Bool.false_eq_true, if_false]
    rw [show wrap64 (((⟨⟨[x, c]⟩⟩ : ByteArray).size : Int) - 1) = 1 from wrapId (x := (2 : Int) - 1) (by omega) (by omega), show (⟨⟨[x, c]⟩⟩ : ByteArray).extract 0 (1 : Int).toNat = ⟨#[x]⟩ from ext2 x c, show bt ⟨⟨[x, c]⟩⟩ 1 = (c.toNat : Int) from bt2_1 x c, wrapByte]
    refine evIf (by decide) (evIf (by show (1 : Int) ≤ 2; decide) (evBind (ev_impl_number1 x) (evIf (by show (1 : Int) < 2; decide) ?_)))
    rw [decS_2]
    cases num1 x with
    | none => exact evElse (by simp) (Ev.now _)
    | some n => exact evIf (by rfl) (evPut (eq_impl_ValidStamp _ _) (evIte (fun _ => Ev.now _) (fun _ => Ev.now _)))
  | [x, y, c], _ =>
    refine evElse (by simp) (evElse (by simp) ?_)
    rw [show decide ((([x, y, c] : List UInt8).length : Int) > 3) = false from by simp]
    refine evSucc ?_
    simp only [impl_DecodeStamp.j0, Bool.false_eq_true, if_false]
    rw [show wrap64 (((⟨⟨[x, y, c]⟩⟩ : ByteArray).size : Int) - 1) = 2 from wrapId (x := (3 : Int) - 1) (by omega) (by omega), show (⟨⟨[x, y, c]⟩⟩ : ByteArray).extract 0 (2 : Int).toNat = ⟨#[x, y]⟩ from ext3 x y c, show bt ⟨⟨[x, y, c]⟩⟩ 2 = (c.toNat : Int) from bt3_2 x y c, wrapByte]
    refine evIf (by decide) (evIf (by show (2 : Int) ≤ 3; decide) (evBind (ev_impl_number2 x y) (evIf (by show (2 : Int) < 3; decide) ?_)))
    rw [decS_3]
    cases num2 x y with
    | none => exact evElse (by simp) (Ev.now _)
    | some n => exact evIf (by rfl) (evPut (eq_impl_ValidStamp _ _) (evIte (fun _ => Ev.now _) (fun _ => Ev.now _)))
  | x :: y :: z :: c :: r, _ =>
    refine evElse (by simp) (evElse (by simp; omega) ?_)
    rw [show decide (((x :: y :: z :: c :: r).length : Int) > 3) = true from by simp; omega]
    exact hno
theorem ok_spec_parseStamp (l : List UInt8) (hn : l.length ≤ 2000000) : ∃ q a, Ev (fun k => spec_parseStamp.f k ⟨⟨l⟩⟩) (q, a) := by
  have hsz : (⟨⟨l⟩⟩ : ByteArray).size = l.length := rfl
  have htl : (⟨⟨l⟩⟩ : ByteArray).toList = l := by rw [ByteArray.toList_eq]
  unfold spec_parseStamp.f
  rw [htl, hsz]
  by_cases h : l = [45]
  · exact ⟨0, 0, evIf h (Ev.now _)⟩
  by_cases h' : l = []
  · exact ⟨-1, 0, evElse h (evIf h' (Ev.now _))⟩
  have hp : 0 < l.length := List.length_pos_iff.2 h'
  rw [wrapId (x := (l.length : Int) - 1) (by omega) (by omega)]
  obtain ⟨v, hv⟩ := ok_spec_parseUint ((⟨⟨l⟩⟩ : ByteArray).extract 0 ((l.length : Int) - 1).toNat) (by rw [ByteArray.size_extract]; omega)
  exact ⟨v, _, evElse h (evElse h' (evIf (by omega) (evIf (by omega) (evBind hv (evIf (by omega) (Ev.now _))))))⟩
theorem ev_spec_parseStamp2 (x c : UInt8) : Ev (fun k => spec_parseStamp.f k ⟨#[x, c]⟩) ((num1 x).getD (-1), (c.toNat : Int) - 97) := by
  have htl : (⟨#[x, c]⟩ : ByteArray).toList = [x, c] := by rw [ByteArray.toList_eq]
  unfold spec_parseStamp.f
  rw [htl, show wrap64 (((⟨#[x, c]⟩ : ByteArray).size : Int) - 1) = 1 from wrapId (x := (2 : Int) - 1) (by omega) (by omega), show (⟨#[x, c]⟩ : ByteArray).extract 0 (1 : Int).toNat = ⟨#[x]⟩ from ext2 x c, bt2_1, wrapByte]
  exact evElse (by simp) (evElse (by simp) (evIf (by decide) (evIf (by show (1 : Int) ≤ 2; decide) (evBind (ev_spec_parseUint1 x) (evIf (by show (1 : Int) < 2; decide) (Ev.now _))))))
theorem ev_spec_parseStamp3 (x y c : UInt8) : Ev (fun k => spec_parseStamp.f k ⟨#[x, y, c]⟩) ((num2 x y).getD (-1), (c.toNat : Int) - 97) := by
  have htl : (⟨#[x, y, c]⟩ : ByteArray).toList = [x, y, c] := by rw [ByteArray.toList_eq]
  unfold spec_parseStamp.f
  rw [htl, show wrap64 (((⟨#[x, y, c]⟩ : ByteArray).size : Int) - 1) = 2 from wrapId (x := (3 : Int) - 1) (by omega) (by omega), show (⟨#[x, y, c]⟩ : ByteArray).extract 0 (2 : Int).toNat = ⟨#[x, y]⟩ from ext3 x y c, bt3_2, wrapByte]
  exact evElse (by simp) (evElse (by simp) (evIf (by decide) (evIf (by show (2 : Int) ≤ 3; decide) (evBind (ev_spec_parseUint2 x y) (evIf (by show (2 : Int) < 3; decide) (Ev.now _))))))
theorem encS_none (a : Int) : encS (-1) a = ⟨#[]⟩ := by
  unfold encS; rw [if_neg (by simp [vst]), if_neg (by omega)]
theorem encS_bad {q a : Int} (h : ¬ vst q a = true) : (encS q a).size ≤ 1 := by
  unfold encS; rw [if_neg h]; split <;> decide
theorem encS_one {x c : UInt8} {n : Int} (hx : num1 x = some n) (h : vst n ((c.toNat : Int) - 97) = true) : (encS n ((c.toNat : Int) - 97)).toList = [x, c] := by
  unfold encS
  rw [if_pos h, strOfNums_list]
  unfold num1 at hx
  split at hx
  · injection hx with hx
    subst hx
    rw [encL, dec, if_pos (by omega)]
    simp only [List.cons_append, List.nil_append, List.map_cons, List.map_nil]
    rw [byteBack x _ (by omega), byteBack c _ (by omega)]
  · cases hx
theorem encS_two {x y c : UInt8} {n : Int} (hx : num2 x y = some n) (h : vst n ((c.toNat : Int) - 97) = true) : (encS n ((c.toNat : Int) - 97)).toList = [x, y, c] := by
  unfold encS
  rw [if_pos h, strOfNums_list]
  unfold num2 at hx
  split at hx
  · rename_i hd
    injection hx with hx
    subst hx
    rw [encL, dec, if_neg (by omega)]
    simp only [List.cons_append, List.nil_append, List.map_cons, List.map_nil]
    rw [byteBack x _ (by omega), byteBack y _ (by omega), byteBack c _ (by omega)]
  · cases hx
theorem list_size {s : ByteArray} {l : List UInt8} (h : s.toList = l) : s.size = l.length := by
  rw [← h, ByteArray.toList_eq]; rfl
theorem ev_spec_DecodeStamp (l : List UInt8) (hn : l.length ≤ 2000000) : Ev (fun k => spec_DecodeStamp.f k ⟨⟨l⟩⟩) (decS l) := by
  have htl : (⟨⟨l⟩⟩ : ByteArray).toList = l := by rw [ByteArray.toList_eq]
  unfold spec_DecodeStamp.f
  rw [htl]
  match l, hn with
  | [], hn =>
    obtain ⟨q, a, h⟩ := ok_spec_parseStamp [] hn
    exact evBind h (evIf (by rfl) (Ev.now _))
  | [c], hn =>
    rw [decS_1]
    by_cases h : c = 45
    · subst h
      have : Ev (fun k => spec_parseStamp.f k ⟨⟨[45]⟩⟩) (0, 0) := by
        unfold spec_parseStamp.f
        rw [show (⟨⟨[45]⟩⟩ : ByteArray).toList = [45] from by rw [ByteArray.toList_eq]]
        exact evIf (by rfl) (Ev.now _)
      exact evBind this (evElse (by simp) (evBind (ev_spec_EncodeStamp 0 0) (evIf (by rw [ByteArray.toList_eq]; decide) (evSome (by simp)))))
    · rw [if_neg h]
      have : Ev (fun k => spec_parseStamp.f k ⟨⟨[c]⟩⟩) (-1, (c.toNat : Int) - 97) := by
        have e : Ev (fun k => spec_parseUint.f k ((⟨⟨[c]⟩⟩ : ByteArray).extract 0 (0 : Int).toNat)) (-1) := by
          rw [show (⟨⟨[c]⟩⟩ : ByteArray).extract 0 (0 : Int).toNat = ⟨#[]⟩ from by apply ByteArray.ext; simp]
          unfold spec_parseUint.f
          exact Ev.step (fun _ => rfl) (evElse (by decide) (evIf (by decide) (Ev.now _)))
        unfold spec_parseStamp.f
        rw [show (⟨⟨[c]⟩⟩ : ByteArray).toList = [c] from by rw [ByteArray.toList_eq], show wrap64 (((⟨⟨[c]⟩⟩ : ByteArray).size : Int) - 1) = 0 from wrapId (x := (1 : Int) - 1) (by omega) (by omega), show bt ⟨⟨[c]⟩⟩ 0 = (c.toNat : Int) from bt1 c, wrapByte]
        exact evElse (by simpa using h) (evElse (by simp) (evIf (by decide) (evIf (by show (0 : Int) ≤ 1; decide) (evBind e (evIf (by show (0 : Int) < 1; decide) (Ev.now _))))))
      refine evBind this (evElse (by simp) (evBind (ev_spec_EncodeStamp _ _) (evElse ?_ (Ev.now _))))
      rw [encS_none, ByteArray.toList_eq]; simp
  | [x, c], hn =>
    refine evBind (ev_spec_parseStamp2 x c) (evElse (by simp) (evBind (ev_spec_EncodeStamp _ _) ?_))
    rw [decS_2]
    cases hx : num1 x with
    | none =>
      refine evElse ?_ (Ev.now _)
      rw [Option.getD_none, encS_none, ByteArray.toList_eq]; simp
    | some n =>
      by_cases hv : vst n ((c.toNat : Int) - 97) = true
      · exact evIf (encS_one hx hv) (evSome (by simp [hv]))
      · refine evElse (fun h => ?_) (evSome (by simp [hv]))
        have := list_size h
        have := encS_bad hv
        simp at *; omega
  | [x, y, c], hn =>
    refine evBind (ev_spec_parseStamp3 x y c) (evElse (by simp) (evBind (ev_spec_EncodeStamp _ _) ?_))
    rw [decS_3]
    cases hx : num2 x y with
    | none =>
      refine evElse ?_ (Ev.now _)
      rw [Option.getD_none, encS_none, ByteArray.toList_eq]; simp
    | some n =>
      by_cases hv : vst n ((c.toNat : Int) - 97) = true
      · exact evIf (encS_two hx hv) (evSome (by simp [hv]))
      · refine evElse (fun h => ?_) (evSome (by simp [hv]))
        have := list_size h
        have := encS_bad hv
        simp at *; omega
  | x :: y :: z :: c :: r, hn =>
    obtain ⟨q, a, h⟩ := ok_spec_parseStamp (x :: y :: z :: c :: r) hn
    refine evBind h (evElse (by simp) (evBind (ev_spec_EncodeStamp _ _) (evElse (fun h => ?_) (Ev.now _))))
    have := list_size h
    have := encS_size q a
    simp at *; omega
theorem obind {α β : Type} {x : Option α} {a : α} {f : α → Option β} {r : Option β} (h : x = some a) (k : f a = r) : x.bind f = r := by subst h; exact k
theorem decD (q : Int) (h0 : 0 ≤ q) (h1 : q ≤ 99) : (⟨(Lib.decDigits q.toNat).toArray⟩ : ByteArray) = strOfNums (dec q) := by
  have e : Lib.decDigits q.toNat = (dec q).map fun n => UInt8.ofNat n.toNat := by
    by_cases h : q < 10
    · rw [Lib.decDigits_one (by omega), dec, if_pos h, List.map_singleton, show (48 + q).toNat = 48 + q.toNat by omega]
    · rw [Lib.decDigits_two (by omega) (by omega), dec, if_neg h, List.map_cons, List.map_singleton, show (48 + q / 10).toNat = 48 + q.toNat / 10 by omega, show (48 + q % 10).toNat = 48 + q.toNat % 10 by omega]
  rw [e]; rfl
theorem eq_impl_EncodeStamp (q a : Int) : impl_EncodeStamp.f q a = some (encS q a) := by
  unfold impl_EncodeStamp.f encS
  by_cases hz : q = 0 ∧ a = 0
  · obtain ⟨rfl, rfl⟩ := hz
    rw [if_pos (by decide), if_neg (by decide), if_pos ⟨rfl, rfl⟩]
  · rw [if_neg (by simp only [Bool.and_eq_true, beq_iff_eq]; exact hz), eq_impl_ValidStamp, Option.bind_some]
    cases h : vst q a with
    | false => rw [if_neg (by decide), if_neg (by decide), if_neg hz]
    | true =>
      simp only [vst, decide_eq_true_eq] at h
      rw [if_pos rfl, if_pos rfl]
      refine obind (a := strOfNums (dec q)) ?_ (obind rfl ?_)
      · rw [← decD q (by omega) (by omega)]
        exact if_pos ⟨by omega, by omega⟩
      · have := dec_length q
        rw [if_pos (by simp only [strOfNums_size, List.length_singleton]; omega), wrapId (by omega) (by omega), Int.emod_eq_of_lt (by omega) (by omega), strOfNums_app]; rfl
theorem ok_spec_reader_of {b : List Int} (hb : BOk b) (p : Int) (h0 : 0 ≤ p) (h1 : p ≤ 1000000000000) (l : List ByteArray) (hl : 0 < l.length) : ∃ v, v ∈ l ∧ Ev (fun k => spec_reader_of.f k b p l) (v, p + 1) := by
  obtain ⟨v, hv, v0, v1, _⟩ := ok_spec_reader_pick hb p (l.length : Int) h0 h1
  have hlt : v < (l.length : Int) := v1 (by omega)
  refine ⟨rdOf ByteArray.empty l v, ?_, ?_⟩
  · obtain ⟨n, rfl⟩ := Int.eq_ofNat_of_zero_le v0
    have hn : n < l.length := by omega
    have e : rdOf ByteArray.empty l (n : Int) = l[n] := by simp [rdOf, hn]
    rw [e]
    exact List.getElem_mem _
  · unfold spec_reader_of.f
    exact evBind hv (evIf v0 (evIf hlt (Ev.now _)))
theorem ok_spec_mutate {b : List Int} (hb : BOk b) (p : Int) (h0 : 0 ≤ p) (h1 : p ≤ 100000000000) (s : ByteArray) (hs : s.size ≤ 1000) : ∃ r q, Ev (fun k => spec_mutate.f k b p s) (r, q) ∧ r.size ≤ 2000 := by
  have e1 : wrap64 ((s.size : Int) + 1) = (s.size : Int) + 1 := wrapId (by omega) (by omega)
  obtain ⟨v, ev, v0, v1, _⟩ := ok_spec_reader_pick hb p ((s.size : Int) + 1) h0 (by omega)
  have hv := v1 (by omega)
  have e2 : wrap64 (v + 1) = v + 1 := wrapId (by omega) (by omega)
  obtain ⟨c, ec, _⟩ := ok_spec_reader_pick hb (p + 1) 5 (by omega) (by omega)
  unfold spec_mutate.f
  simp only [e1]
  by_cases c0 : c = 0
  · by_cases hlt : v < (s.size : Int)
    · obtain ⟨x, hx, ex⟩ := ok_spec_reader_of hb (p + 1 + 1) (by omega) (by omega) [(⟨#[48]⟩ : ByteArray), (⟨#[49]⟩ : ByteArray), (⟨#[32]⟩ : ByteArray), (⟨#[45]⟩ : ByteArray), (⟨#[97]⟩ : ByteArray), (⟨#[98]⟩ : ByteArray), (⟨#[10]⟩ : ByteArray), (⟨#[120]⟩ : ByteArray)] (by decide)
      have hx1 : x.size = 1 := (by decide : ∀ y ∈ [(⟨#[48]⟩ : ByteArray), (⟨#[49]⟩ : ByteArray), (⟨#[32]⟩ : ByteArray), (⟨#[45]⟩ : ByteArray), (⟨#[97]⟩ : ByteArray), (⟨#[98]⟩ : ByteArray), (⟨#[10]⟩ : ByteArray), (⟨#[120]⟩ : ByteArray)], y.size = 1) x hx
      refine ⟨_, _, evBind ev (evBind ec (evIf c0 (evIf hlt (evIf v0 (evIf (by omega) (evBind ex (evIf ?_ (evIf ?_ (evIf ?_ (evIf ?_ (Ev.now _))))))))))), ?_⟩
      · simp only [ByteArray.size_extract]; omega
      · rw [e2]; omega
      · rw [e2]; omega
      · simp only [ByteArray.size_append, ByteArray.size_extract]; omega
      · simp only [ByteArray.size_append, ByteArray.size_extract]; omega
    · exact ⟨_, _, evBind ev (evBind ec (evIf c0 (evElse hlt (Ev.now _)))), by omega⟩
  by_cases c1 : c = 1
  · refine ⟨_, _, evBind ev (evBind ec (evElse c0 (evIf c1 (evIf v0 (evIf (by omega) (Ev.now _)))))), ?_⟩
    simp only [ByteArray.size_extract]; omega
  by_cases c2 : c = 2
  · obtain ⟨x, hx, ex⟩ := ok_spec_reader_of hb (p + 1 + 1) (by omega) (by omega) [(⟨#[48]⟩ : ByteArray), (⟨#[32]⟩ : ByteArray), (⟨#[10]⟩ : ByteArray), (⟨#[120]⟩ : ByteArray)] (by decide)
    have hx1 : x.size = 1 := (by decide : ∀ y ∈ [(⟨#[48]⟩ : ByteArray), (⟨#[32]⟩ : ByteArray), (⟨#[10]⟩ : ByteArray), (⟨#[120]⟩ : ByteArray)], y.size = 1) x hx
    refine ⟨_, _, evBind ev (evBind ec (evElse c0 (evElse c1 (evIf c2 (evBind ex (evIf ?_ (Ev.now _))))))), ?_⟩
    · show s.size + x.size ≤ 9223372036854775807
      omega
    · simp only [ByteArray.size_append]; omega
  · exact ⟨_, _, evBind ev (evBind ec (evElse c0 (evElse c1 (evElse c2 (Ev.now _))))), by omega⟩
theorem ok_spec_DrawDecodeStamp (l : List Int) (h : ∀ x ∈ l, (Lit.int .u8 x).wf = true) : ∃ s, Ev (fun k => spec_DrawDecodeStamp.f k l) s ∧ s.size ≤ 2000 := by
  obtain ⟨b, e, hb⟩ := ok_spec_newReader l h
  obtain ⟨x, y, q, ex, q0, q1⟩ := ok_spec_anyStamp hb 0 (by omega) (by omega)
  have hs := encS_size x y
  obtain ⟨v, ev, _⟩ := ok_spec_reader_pick hb q 2 (by omega) (by omega)
  unfold spec_DrawDecodeStamp.f
  by_cases c : v = 0
  · exact ⟨_, evPut e (evBind ex (evBind (ev_spec_EncodeStamp x y) (evBind ev (evIf c (Ev.now _))))), by omega⟩
  · obtain ⟨r, q', em, hr⟩ := ok_spec_mutate hb (q + 1) (by omega) (by omega) (encS x y) (by omega)
    exact ⟨r, evPut e (evBind ex (evBind (ev_spec_EncodeStamp x y) (evBind ev (evElse c (evBind em (Ev.now _)))))), hr⟩
theorem enc_dec : ∀ (z : List UInt8) (q a : Int), decS z = (q, a, true) → (encS q a).toList = z
  | [], _, _, h => by simp [decS] at h
  | [c], q, a, h => by
    rw [decS_1] at h
    split at h
    · rename_i hc
      simp only [Prod.mk.injEq, and_true] at h
      obtain ⟨rfl, rfl⟩ := h
      subst hc
      unfold encS
      rw [if_neg (by decide), if_pos ⟨rfl, rfl⟩, ByteArray.toList_eq]
    · simp at h
  | [x, c], q, a, h => by
    rw [decS_2] at h
    cases hx : num1 x with
    | none => rw [hx] at h; simp at h
    | some n =>
      rw [hx] at h
      simp only at h
      split at h
      · rename_i hv
        simp only [Prod.mk.injEq, and_true] at h
        obtain ⟨rfl, rfl⟩ := h
        exact encS_one hx hv
      · simp at h
  | [x, y, c], q, a, h => by
    rw [decS_3] at h
    cases hx : num2 x y with
    | none => rw [hx] at h; simp at h
    | some n =>
      rw [hx] at h
      simp only at h
      split at h
      · rename_i hv
        simp only [Prod.mk.injEq, and_true] at h
        obtain ⟨rfl, rfl⟩ := h
        exact encS_two hx hv
      · simp at h
  | _ :: _ :: _ :: _ :: _, _, _, h => by simp [decS] at h
theorem FnStampCanonical : ∀ (l0 : List Int), l0.length ≤ maxLen → l0.length * 1 ≤ 140737488351232 → (∀ x ∈ l0, (Lit.int .u8 x).wf = true) → ∃ k, laws_FnStampCanonical.f k l0 = some true := by
  intro l _ _ hw
  apply Ev.rounds
  unfold laws_FnStampCanonical.f
  by_cases hn : (l.length : Int) > 1048576
  · exact evIf hn (Ev.now _)
  obtain ⟨⟨⟨z⟩⟩, eD, hs⟩ := ok_spec_DrawDecodeStamp l hw
  have hz : z.length ≤ 2000000 := by have : (⟨⟨z⟩⟩ : ByteArray).size = z.length := rfl; omega
  have eI := ev_impl_DecodeStamp z hz
  have eS := ev_spec_DecodeStamp z hz
  have hd := enc_dec z
  generalize decS z = r at eI eS hd
  obtain ⟨q, a, ok⟩ := r
  refine evElse hn (evBind eD (evBind eI (evBind eS (evElse (by simp) (evElse (by simp) ?_)))))
  cases ok with
  | false => exact evElse (by simp) (evIf (by simp) (evSome (by simp)))
  | true =>
    refine evIf rfl (evPut (eq_impl_EncodeStamp q a) (evSome ?_))
    rw [hd q a rfl, ByteArray.toList_eq]
    simp

end Go.Proofs.YtfcbpkbingmdeaaDoor.Pure

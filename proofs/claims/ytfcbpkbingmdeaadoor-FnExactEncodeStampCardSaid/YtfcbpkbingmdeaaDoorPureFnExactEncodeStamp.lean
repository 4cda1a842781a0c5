/- The plain side of the statement FnExactEncodeStamp: the printed functions answer true at every input. Conditions: none beyond the given statement's own. -/
import Derived.Test.YtfcbpkbingmdeaaDoorQEx6
import Derived.Test.YtfcbpkbingmdeaaDoorBase
namespace Go.Proofs.YtfcbpkbingmdeaaDoor.Pure
open Go.RowKit Go.Proofs.YtfcbpkbingmdeaaDoor.QE Go.Proofs.YtfcbpkbingmdeaaDoorW.PrintWords Go.Proofs.YtfcbpkbingmdeaaDoorW.PrintLast Go.Proofs.YtfcbpkbingmdeaaDoor.Base
set_option linter.unusedVariables false
set_option linter.unusedSimpArgs false

theorem eq_spec_inRange (a lo hi : Int) : spec_inRange.f a lo hi = some (decide (lo ≤ a ∧ a ≤ hi)) := by
  unfold spec_inRange.f
  by_cases h : lo ≤ a <;> simp [h]
theorem eq_impl_isAuthor (a : Int) : impl_isAuthor.f a = some (decide (0 ≤ a ∧ a ≤ 2)) := by
  unfold impl_isAuthor.f
  by_cases h : 0 ≤ a
  · rw [if_pos h]
    by_cases h' : a ≤ 2
    · rw [decide_eq_true (show a < 3 by omega), decide_eq_true (⟨h, h'⟩ : 0 ≤ a ∧ a ≤ 2)]
    · rw [decide_eq_false (show ¬ a < 3 by omega), decide_eq_false (fun hh => h' hh.2)]
  · rw [if_neg h, decide_eq_false (fun hh => h hh.1)]
theorem eq_laws_toStamp (a b : Int) : laws_toStamp.f a b = some (a, b) := rfl
theorem eq_spec_validStamp (a b : Int) : spec_validStamp.f a b = some (vst a b) := by
  unfold spec_validStamp.f vst
  simp only [eq_spec_inRange, Option.bind_some]
  by_cases h : 1 ≤ a ∧ a ≤ 99
  · simp only [h, decide_true, if_true, and_self, true_and]
  · simp only [h, decide_false, Bool.false_eq_true, if_false, false_and]
theorem eq_impl_ValidStamp (a b : Int) : impl_ValidStamp.f a b = some (vst a b) := by
  unfold impl_ValidStamp.f vst
  simp only [eq_impl_isAuthor, Option.bind_some]
  by_cases h : 1 ≤ a
  · by_cases h' : a ≤ 99
    · simp only [ge_iff_le, h, h', if_true, and_self, true_and]
    · simp only [ge_iff_le, h, h', if_true, if_false, and_false, false_and, decide_false]
  · simp only [ge_iff_le, h, if_false, false_and, decide_false]
theorem strOfNums_app (xs ys : List Int) : strOfNums xs ++ strOfNums ys = strOfNums (xs ++ ys) := by
  apply ByteArray.ext
  apply Array.ext'
  simp [strOfNums]
/-- A number of 0 to 99 in decimal, as bytes. -/
def dec (q : Int) : List Int := if q < 10 then [48 + q] else [48 + q / 10, 48 + q % 10]
/-- A valid stamp's text, as bytes. -/
def encL (q a : Int) : List Int := dec q ++ [97 + a]
theorem dec_length (q : Int) : 1 ≤ (dec q).length ∧ (dec q).length ≤ 2 := by unfold dec; split <;> simp
/-- The text of a stamp, valid or zero, else the empty text. -/
def encS (q a : Int) : ByteArray := if vst q a = true then strOfNums (encL q a) else if q = 0 ∧ a = 0 then ⟨#[45]⟩ else ⟨#[]⟩
theorem ev_spec_formatInt1 (q : Int) (h0 : 0 ≤ q) (h1 : q < 10) : Ev (fun k => spec_formatInt.f k q) (strOfNums [48 + q]) := by
  refine Ev.step (fun _ => rfl) (evElse (by omega) (evElse (by omega) (evIf (by omega) (evSome ?_))))
  rw [wrapId (by omega) (by omega)]
  congr 1
  rw [Int.emod_eq_of_lt (by omega) (by omega)]
theorem ev_spec_formatInt (q : Int) (h0 : 0 ≤ q) (h1 : q ≤ 99) : Ev (fun k => spec_formatInt.f k q) (strOfNums (dec q)) := by
  unfold dec
  by_cases h : q < 10
  · rw [if_pos h]; exact ev_spec_formatInt1 q h0 h
  rw [if_neg h]
  have e1 : wrap64 (Int.tdiv q 10) = q / 10 := by rw [Int.tdiv_eq_ediv_of_nonneg h0, wrapId (by omega) (by omega)]
  have e2 : wrap64 (48 + Int.tmod q 10) % 256 = 48 + q % 10 := by rw [Int.tmod_eq_emod_of_nonneg h0, wrapId (by omega) (by omega), Int.emod_eq_of_lt (by omega) (by omega)]
  refine Ev.step (fun _ => rfl) (evElse (by omega) (evElse (by omega) (evElse (by omega) ?_)))
  rw [e1, e2]
  refine evBind (ev_spec_formatInt1 (q / 10) (by omega) (by omega)) (evPut rfl (evIf (by simp only [strOfNums_size]; simp) (evSome ?_)))
  rw [strOfNums_app]; rfl
theorem ev_spec_formatStamp (q a : Int) (h : vst q a = true) : Ev (fun k => spec_formatStamp.f k q a) (strOfNums (encL q a)) := by
  simp only [vst, decide_eq_true_eq] at h
  unfold spec_formatStamp.f
  refine evElse (by omega) (evBind (ev_spec_formatInt q (by omega) (by omega)) (evPut rfl (evIf ?_ (evSome ?_))))
  · have := dec_length q
    simp only [strOfNums_size, List.length_singleton]; omega
  · rw [wrapId (by omega) (by omega), Int.emod_eq_of_lt (by omega) (by omega), strOfNums_app]; rfl
theorem ev_spec_EncodeStamp (q a : Int) : Ev (fun k => spec_EncodeStamp.f k q a) (encS q a) := by
  unfold spec_EncodeStamp.f encS
  refine evPut (eq_spec_validStamp _ _) ?_
  cases h : vst q a with
  | true => exact evIf (by rfl) (evBind (ev_spec_formatStamp q a h) (Ev.now _))
  | false =>
    refine evElse (by simp) ?_
    by_cases hz : q = 0 ∧ a = 0
    · obtain ⟨rfl, rfl⟩ := hz
      refine evElse (by simp) ?_
      have e : ∀ k, spec_formatStamp.f k 0 0 = some ⟨#[45]⟩ := fun k => by unfold spec_formatStamp.f; simp
      exact evBind (Ev.congr e (Ev.now _)) (Ev.now _)
    · refine evIf (by simp; omega) (evSome ?_)
      rw [if_neg (by simp), if_neg hz]
theorem obind {α β : Type} {x : Option α} {a : α} {f : α → Option β} {r : Option β} (h : x = some a) (k : f a = r) : x.bind f = r := by subst h; exact k
theorem decD (q : Int) (h0 : 0 ≤ q) (h1 : q ≤ 99) : (⟨(Lib.decDigits q.toNat).toArray⟩ : ByteArray) = strOfNums (dec q) := by
  have e : Lib.decDigits q.toNat = (dec q).map fun n => UInt8.ofNat n.toNat := by
    by_cases h : q < 10
    · rw [Lib.decDigits_one (by omega), dec, if_pos h, List.map_singleton, show (48 + q).toNat = 48 + q.toNat by omega]
    · rw [Lib.decDigits_two (by omega) (by omega), dec, if_neg h, List.map_cons, List.map_singleton, show (48 + q / 10).toNat = 48 + q.toNat / 10 by omega, show (48 + q % 10).toNat = 48 + q.toNat % 10 by omega]
  rw [e]; rfl
theorem eq_impl_EncodeStamp (q a : Int) : impl_EncodeStamp.f q a = some (encS q a) := by
  unfold impl_EncodeStamp.f encS
  by_cases hz : q = 0 ∧ a = 0
  · obtain ⟨rfl, rfl⟩ := hz
    rw [if_pos (by decide), if_neg (by decide), if_pos ⟨rfl, rfl⟩]
  · rw [if_neg (by simp only [Bool.and_eq_true, beq_iff_eq]; exact hz), eq_impl_ValidStamp, Option.bind_some]
    cases h : vst q a with
    | false => rw [if_neg (by decide), if_neg (by decide), if_neg hz]
    | true =>
      simp only [vst, decide_eq_true_eq] at h
      rw [if_pos rfl, if_pos rfl]
      refine obind (a := strOfNums (dec q)) ?_ (obind rfl ?_)
      · rw [← decD q (by omega) (by omega)]
        exact if_pos ⟨by omega, by omega⟩
      · have := dec_length q
        rw [if_pos (by simp only [strOfNums_size, List.length_singleton]; omega), wrapId (by omega) (by omega), Int.emod_eq_of_lt (by omega) (by omega), strOfNums_app]; rfl
theorem FnExactEncodeStamp : ∀ (x0_f0 : Int) (x0_f1 : Int), ((Lit.int .i64 x0_f0).wf = true ∧ (Lit.int .i64 x0_f1).wf = true) → ∃ k, laws_FnExactEncodeStamp.f k x0_f0 x0_f1 = some true := by
  intro q a _
  apply Ev.rounds
  unfold laws_FnExactEncodeStamp.f
  exact evPut (eq_laws_toStamp _ _) (evBind (ev_spec_EncodeStamp q a) (evPut (eq_laws_toStamp _ _) (evPut (eq_impl_EncodeStamp q a) (evIf rfl (Ev.now _)))))

end Go.Proofs.YtfcbpkbingmdeaaDoor.Pure

/- Plain lemmas: whatever the form reads as data of a type (whole numbers, bools, strings, structs of these, slices of these) is told by the print's kinds, with what the reading says of each number and string. No statement of the program stands here. -/
import Derived.Test.YtfcbpkbingmdeaaWWords
import Derived.Deep.Slices
import Derived.Deep.Fields
import Derived.ChangeSame
namespace Go.Proofs.Ytfcbpkbingmdeaa.Open
open Go.RowKit Go.ChangeShapes Go.WideShapes Go.Deep Go.Proofs.YtfcbpkbingmdeaaW.PrintWords
set_option linter.unusedVariables false
section
variable {H : Type} {enc : TypeId × Value → H} {P : Program} {w : World}

/-- Whatever reads as data of type t is of this kind; Q: what is known of it. -/
def Opens (enc : TypeId × Value → H) (P : Program) (w : World) (t : TypeId) {α : Type} (d : Kd α) (Q : α → Prop) : Prop :=
  ∀ (fuel : Nat) (cs : List Value) (x : DataW H × List MemPlace), DataW.trod enc P w 0 (fun _ => true) true fuel t cs = some x → ∃ v, d.K w v cs ∧ Q v
theorem Opens.int {t : TypeId} {k : IntKind} (ht : P.underlying t = some (.int k)) : Opens enc P w t (Kd.int k) (fun x => (Lit.int k x).wf = true) := by
  intro fuel cs x h
  obtain ⟨n, rfl, _, hw⟩ := DataW.trod_int ht h
  exact ⟨n, rfl, hw⟩
theorem Opens.bool {t : TypeId} (ht : P.underlying t = some .bool) : Opens enc P w t Kd.bool (fun _ => True) := by
  intro fuel cs x h
  obtain ⟨n, rfl, _⟩ := DataW.trod_bool ht h
  exact ⟨n, rfl, trivial⟩
theorem Opens.string {t : TypeId} (ht : P.underlying t = some .string) : Opens enc P w t Kd.string (fun s => s.size ≤ maxLen) := by
  intro fuel cs x h
  obtain ⟨n, rfl, _, hw⟩ := DataW.trod_string ht h
  exact ⟨n, rfl, hw⟩
/-- The fields from number i on, which begin at cell o. -/
def OpensF (enc : TypeId × Value → H) (P : Program) (w : World) (fs : Array Field) (i o : Nat) {α : Type} (d : Kd α) (Q : α → Prop) : Prop :=
  ∀ (n : Nat) (cs : List Value) (xs : List (DataW H × List MemPlace)), xs.length = fs.size → (∀ (j : Nat) (f : Field), fs[j]? = some f → DataW.trod enc P w 0 (fun _ => true) true n f.type ((cs.drop f.offset).take (P.cellsOf f.type)) = xs[j]?) → cs.length = o + d.sz → ∃ v, d.K w v (cs.drop o) ∧ Q v
theorem OpensF.last {fs : Array Field} {i o : Nat} {f : Field} {α : Type} {d : Kd α} {Q : α → Prop} (hf : fs[i]? = some f) (ho : f.offset = o) (hs : P.cellsOf f.type = d.sz) (h : Opens enc P w f.type d Q) : OpensF enc P w fs i o d Q := by
  intro n cs xs hx ht hl
  have hi : i < fs.size := (Array.getElem?_eq_some_iff.1 hf).1
  have h1 := ht i f hf
  rw [ho, hs, List.take_of_length_le (by rw [List.length_drop]; omega), List.getElem?_eq_getElem (by omega)] at h1
  exact h n _ _ h1
theorem OpensF.cons {fs : Array Field} {i o : Nat} {f : Field} {α β : Type} {d : Kd α} {Q : α → Prop} {d' : Kd β} {Q' : β → Prop} (hf : fs[i]? = some f) (ho : f.offset = o) (hs : P.cellsOf f.type = d.sz) (h : Opens enc P w f.type d Q) (r : OpensF enc P w fs (i + 1) (o + d.sz) d' Q') : OpensF enc P w fs i o (Kd.pair d d') (fun x => Q x.1 ∧ Q' x.2) := by
  intro n cs xs hx ht hl
  have hl' : cs.length = o + d.sz + d'.sz := by rw [hl, Nat.add_assoc]; rfl
  have hi : i < fs.size := (Array.getElem?_eq_some_iff.1 hf).1
  have h1 := ht i f hf
  rw [ho, hs, List.getElem?_eq_getElem (by omega)] at h1
  obtain ⟨v, hv, hq⟩ := h n _ _ h1
  obtain ⟨v', hv', hq'⟩ := r n cs xs hx ht hl'
  refine ⟨(v, v'), ⟨(cs.drop o).take d.sz, cs.drop (o + d.sz), ?_, hv, hv'⟩, hq, hq'⟩
  rw [show cs.drop (o + d.sz) = (cs.drop o).drop d.sz from by rw [List.drop_drop]]
  exact (List.take_append_drop _ _).symm
theorem Opens.struct {t : TypeId} {fs : Array Field} {α β : Type} {d : Kd α} {Q : α → Prop} {f : β → α} (g : α → β) (ht : P.underlying t = some (.struct fs)) (hs : P.cellsOf t = d.sz) (h : OpensF enc P w fs 0 0 d Q) (hfg : ∀ a, f (g a) = a) : Opens enc P w t (Kd.iso d f) (fun x => Q (f x)) := by
  intro fuel cs x hx
  obtain ⟨xs, n, _, _, hl, hxl, hat⟩ := DataW.trod_struct ht hx
  obtain ⟨v, hv, hq⟩ := h n cs xs hxl hat (by rw [hl, hs, Nat.zero_add])
  refine ⟨g v, ?_, by show Q (f (g v)); rw [hfg]; exact hq⟩
  show d.K w (f (g v)) cs
  rw [hfg]
  exact hv
theorem Opens.slice {t e : TypeId} {α : Type} {d : Kd α} {Q : α → Prop} {A : Option Addr} {len cap fuel : Nat} {x : DataW H × List MemPlace} (ht : P.underlying t = some (.slice e)) (hs : P.cellsOf e = d.sz) (h : Opens enc P w e d Q)
    (hx : DataW.trod enc P w 0 (fun _ => true) true fuel t [.slice A len cap] = some x) : ∃ xs : List α, xs.length = len ∧ Kd.C d w A xs.length xs ∧ xs.length ≤ cap ∧ xs.length ≤ maxLen ∧ ∀ y ∈ xs, Q y := by
  rcases open_slice ht hx with ⟨hcs, _⟩ | ⟨a, l, c, m, n, D, Pl, hcs, hb, hl, hm, hmm, _, hi⟩
  · injection hcs with hcs _
    injection hcs with h1 h2 h3
    subst h1; subst h2; subst h3
    exact ⟨[], rfl, Kd.C_nil d w, Nat.le_refl _, Nat.zero_le _, fun y hy => by cases hy⟩
  · injection hcs with hcs _
    injection hcs with h1 h2 h3
    subst h1; subst h2; subst h3
    have key : ∀ i : Fin len, ∃ v : α, Q v ∧ ∃ c', c'.length = d.sz ∧ d.K w v c' ∧ ∀ j u, c'[j]? = some u → w.cell? (a.add (i.1 * d.sz + j)) = some u := by
      intro i
      obtain ⟨cs', hc, htr⟩ := hi i.1 (by have := i.2; simp at hmm; omega)
      obtain ⟨v, hv, hq⟩ := h n cs' _ htr
      rw [hs] at hc
      obtain ⟨_, hcl, hat⟩ := World.cells?_some hc
      refine ⟨v, hq, cs', hcl, hv, fun j u hu => ?_⟩
      have hj : j < d.sz := by
        have := (List.getElem?_eq_some_iff.1 hu).1
        omega
      have hcell := hat j hj
      rw [← Go.Deep.add_add, hcell, hu]
    have hlen : (List.ofFn fun i => Classical.choose (key i)).length = len := List.length_ofFn
    refine ⟨List.ofFn fun i => Classical.choose (key i), hlen, ⟨rfl, ?_, fun _ => ⟨a, rfl, fun j p hp => ?_⟩⟩, by rw [hlen]; exact hl, by rw [hlen]; omega, fun y hy => ?_⟩
    · rw [hlen]; unfold maxLen at hm; omega
    · obtain ⟨hj, rfl⟩ := List.getElem?_eq_some_iff.1 hp
      rw [List.getElem_ofFn]
      exact (Classical.choose_spec (key ⟨j, by rw [← hlen]; exact hj⟩)).2
    · obtain ⟨i, rfl⟩ := (List.mem_ofFn).1 hy
      exact (Classical.choose_spec (key i)).1
/-- A struct by value. -/
theorem Opens.value {t : TypeId} {fs : Array Field} {α : Type} {d : Kd α} {Q : α → Prop} {r : Reach} {b : Nat} {v : Value} {dd : DataW H} {p : List MemPlace} (ht : P.underlying t = some (.struct fs)) (h : Opens enc P w t d Q)
    (hv : Value.okWide P w r b t v) (hx : DataW.Trod enc P w 0 (fun _ => true) true t v dd p) : ∃ x cs, v = .agg ⟨cs⟩ ∧ d.K w x cs ∧ Q x := by
  obtain ⟨cs, rfl, _⟩ := okWide_struct ht hv
  obtain ⟨fuel, hf⟩ := hx
  obtain ⟨cs⟩ := cs
  obtain ⟨x, hk, hq⟩ := h fuel _ _ hf
  exact ⟨x, cs, rfl, hk, hq⟩
end
end Go.Proofs.Ytfcbpkbingmdeaa.Open

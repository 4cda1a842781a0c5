/- Plain lemmas on 'some number of rounds is enough', on reads of lists and on 64-bit sums: no statement of the program stands here. -/
import Derived.Test.YtfcbpkbingmdeaaWWords
import Derived.Test.YtfcbpkbingmdeaaWSized
namespace Go.Proofs.Ytfcbpkbingmdeaa.Base
open Go.RowKit Go.Proofs.YtfcbpkbingmdeaaW.PrintWords
set_option linter.unusedVariables false

/-- A draw changes no cell. -/
theorem frozen_at {w w' : World} {m : Nat} {a : Addr} {b : Bool} (hq : w.drewN m = w') (h : w.frozen? a = b) : w'.frozen? a = b := by subst hq; exact h
theorem evIf {α : Type} {c : Prop} [Decidable c] {f g : Nat → Option α} {r : α} (h : c) (k : Ev f r) : Ev (fun n => if c then f n else g n) r := by
  obtain ⟨K, k⟩ := k
  exact ⟨K, fun n hn => (if_pos h).trans (k n hn)⟩
theorem evElse {α : Type} {c : Prop} [Decidable c] {f g : Nat → Option α} {r : α} (h : ¬ c) (k : Ev g r) : Ev (fun n => if c then f n else g n) r := by
  obtain ⟨K, k⟩ := k
  exact ⟨K, fun n hn => (if_neg h).trans (k n hn)⟩
theorem evIte {α : Type} {c : Prop} [Decidable c] {f g : Nat → Option α} {a b : α} (h : c → Ev f a) (k : ¬ c → Ev g b) : Ev (fun n => if c then f n else g n) (if c then a else b) := by
  by_cases hc : c
  · rw [if_pos hc]; exact evIf hc (h hc)
  · rw [if_neg hc]; exact evElse hc (k hc)
theorem evBind {α β : Type} {g : Nat → Option α} {f : Nat → α → Option β} {a : α} {r : β} (h : Ev g a) (k : Ev (fun n => f n a) r) : Ev (fun n => (g n).bind fun t => f n t) r := Ev.bind h k
theorem evSucc {α : Type} {g : Nat → Option α} {r : α} (k : Ev (fun n => g (n + 1)) r) : Ev g r := Ev.step (fun _ => rfl) k
theorem evPut {α β : Type} {x : Option α} {f : Nat → α → Option β} {a : α} {r : β} (h : x = some a) (k : Ev (fun n => f n a) r) : Ev (fun n => x.bind fun t => f n t) r := by
  subst h
  exact k
theorem evEq {α : Type} {f : Nat → Option α} {a b : α} (h : Ev f a) (e : a = b) : Ev f b := e ▸ h
theorem evSome {α : Type} {a b : α} (e : a = b) : Ev (fun _ => some a) b := e ▸ Ev.now a
theorem evSome' {α : Type} {x : Option α} {b : α} (e : x = some b) : Ev (fun _ => x) b := e ▸ Ev.now b
theorem rdNat (xs : List Int) (i : Nat) : rd xs (i : Int) = xs.getD i 0 := by simp [rd]
theorem rdAt (xs : List Int) (i : Nat) (h : i < xs.length) : rd xs (i : Int) = xs[i] := by simp [rd, h]
theorem wrapId {x : Int} (h0 : -9223372036854775808 ≤ x) (h1 : x < 9223372036854775808) : wrap64 x = x := by unfold wrap64; omega
theorem wrapSucc (i : Nat) (h : i < 4611686018427387904) : wrap64 ((i : Int) + 1) = ((i + 1 : Nat) : Int) := by unfold wrap64; omega
theorem takeSucc {α : Type} (l : List α) (i : Nat) (h : i < l.length) : l.take (i + 1) = l.take i ++ [l[i]] := by
  rw [List.take_succ_eq_append_getElem h]
/-- A loop over the places of a list, told by a step on the rest of the list. -/
theorem dropCons {α : Type} (l : List α) (i : Nat) (h : i < l.length) : l.drop i = l[i] :: l.drop (i + 1) := List.drop_eq_getElem_cons h
theorem wfInt {x : Int} (h : (Lit.int .i64 x).wf = true) : -9223372036854775808 ≤ x ∧ x < 9223372036854775808 := by
  simp [Lit.wf, IntKind.min, IntKind.max, IntKind.bits, IntKind.signed] at h
  omega
/-! Stamps and operations, as data. -/
def vst (q a : Int) : Bool := decide ((1 ≤ q ∧ q ≤ 99) ∧ 0 ≤ a ∧ a ≤ 2)
def slt (q a q' a' : Int) : Bool := decide (q < q' ∨ (q = q' ∧ a < a'))
def zB (t0 t1 : Int) : Bool := t0 == 0 && (t1 == 0)
def refB (i0 i1 t0 t1 : Int) : Bool := vst t0 t1 && slt t0 t1 i0 i1
def optB (i0 i1 t0 t1 : Int) : Bool := zB t0 t1 || refB i0 i1 t0 t1
def emB (s : ByteArray) : Bool := s.toList.isEmpty
def wordB (s : ByteArray) : Bool := (bytesOf s).all (fun x => decide (97 ≤ x ∧ x ≤ 122)) && decide (1 ≤ s.size ∧ s.size ≤ 8)
def inB (v lo hi : Int) : Bool := decide (lo ≤ v ∧ v ≤ hi)
/-- A valid operation, told by its cells: ID, kind, target, after, new parent, value, enable, text. -/
def vopB (i0 i1 kd t0 t1 a0 a1 n0 n1 v : Int) (en : Bool) (tx : ByteArray) : Bool :=
  vst i0 i1 &&
  (if kd = 1 then optB i0 i1 t0 t1 && (optB i0 i1 a0 a1 && (zB n0 n1 && (inB v 32 126 && (!en && emB tx))))
   else if kd = 2 then refB i0 i1 t0 t1 && (zB a0 a1 && (zB n0 n1 && ((v == 0) && (!en && emB tx))))
   else if kd = 3 then refB i0 i1 t0 t1 && (refB i0 i1 a0 a1 && (zB n0 n1 && (inB v 1 3 && emB tx)))
   else if kd = 4 then optB i0 i1 t0 t1 && (optB i0 i1 a0 a1 && (zB n0 n1 && (inB v 1 4 && (!en && emB tx))))
   else if kd = 5 then refB i0 i1 t0 t1 && (optB i0 i1 a0 a1 && (optB i0 i1 n0 n1 && ((v == 0) && (!en && emB tx))))
   else if kd = 6 then refB i0 i1 t0 t1 && (zB a0 a1 && (zB n0 n1 && (inB v 1 4 && (!en && emB tx))))
   else if kd = 7 then refB i0 i1 t0 t1 && (zB a0 a1 && (zB n0 n1 && ((v == 0) && (!en && emB tx))))
   else if kd = 8 then refB i0 i1 t0 t1 && (refB i0 i1 a0 a1 && (zB n0 n1 && ((v == 0) && (!en && wordB tx))))
   else if kd = 9 then refB i0 i1 t0 t1 && (zB a0 a1 && (zB n0 n1 && ((v == 0) && (!en && wordB tx))))
   else if kd = 10 then refB i0 i1 t0 t1 && (zB a0 a1 && (zB n0 n1 && ((v == 0) && emB tx)))
   else false)
end Go.Proofs.Ytfcbpkbingmdeaa.Base
namespace Go.Proofs.Ytfcbpkbingmdeaa.PrintWords
open Go.ChangeShapes Go.WideShapes
/-- The words' lemma under the name by which the printed row calls it. -/
theorem sized_ints {H : Type} {enc : TypeId × Value → H} {P : Program} {W : World} {base : Nat} {spare : Nat → Bool} {held : Bool} {t e : TypeId} {k : IntKind} {a : Option Addr} {len cap : Nat} {d : DataW H} {ps : List MemPlace} {ts : List TypeId} {ds : List (DataW H)} {j : Nat}
    (hsz : (DataW.weightsEach P ts ds).all (· ≤ reachBytes) = true) (ht : ts[j]? = some t) (hd : ds[j]? = some d) (hu : P.underlying t = some (.slice e)) (he : P.underlying e = some (.int k)) (hc : P.cellsOf e = 1) {B : Nat} (hB : P.bytesOf e = B)
    (h : DataW.Trod enc P W base spare held t (.slice a len cap) d ps) : len * B ≤ 140737488351232 :=
  Go.Proofs.YtfcbpkbingmdeaaW.PrintWords.sized_ints hsz ht hd hu he hc hB h
end Go.Proofs.Ytfcbpkbingmdeaa.PrintWords

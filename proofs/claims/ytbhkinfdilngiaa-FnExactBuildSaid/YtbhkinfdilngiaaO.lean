/- Plain words on arguments: whatever reads as data at a type reads as the kind of its elements (whole numbers, bools, texts, slices and structs of these, in any depth). No condition. -/
import Derived.Test.YtbhkinfdilngiaaVMore
import Derived.Deep.Slices
import Derived.ChangeArms
import Derived.WideShapes
namespace Go.Proofs.Ytbhkinfdilngiaa.O
open Go.RowKit Go.Proofs.YtbhkinfdilngiaaW.PrintWords Go.Proofs.YtbhkinfdilngiaaW.PrintLast Go.Proofs.YtbhkinfdilngiaaW.PrintMore
open Go.ChangeShapes Go.WideShapes Go.Deep
set_option linter.unusedVariables false
set_option linter.unusedSimpArgs false

/-- What reads as data at type t is of kind d, and good. -/
def Opn (P : Program) {α : Type} (d : Kd α) (t : TypeId) (Q : α → Prop) : Prop :=
  ∀ (H : Type) (enc : TypeId × Value → H) (W : World) (base : Nat) (spare : Nat → Bool) (held : Bool) (fuel : Nat) (cs : List Value) (x : DataW H × List MemPlace),
    DataW.trod enc P W base spare held fuel t cs = some x → ∃ y, d.K W y cs ∧ Q y
theorem opn_int {P : Program} {t : TypeId} {k : IntKind} (hu : P.underlying t = some (.int k)) : Opn P (Kd.int k) t (fun n => (Lit.int k n).wf = true) := by
  intro H enc W base spare held fuel cs x h
  obtain ⟨n, h1, _, h2⟩ := DataW.trod_int hu h
  exact ⟨n, h1, h2⟩
theorem opn_bool {P : Program} {t : TypeId} (hu : P.underlying t = some .bool) : Opn P Kd.bool t (fun _ => True) := by
  intro H enc W base spare held fuel cs x h
  obtain ⟨b, h1, _⟩ := DataW.trod_bool hu h
  exact ⟨b, h1, trivial⟩
theorem opn_string {P : Program} {t : TypeId} (hu : P.underlying t = some .string) : Opn P Kd.string t (fun s => s.size ≤ maxLen) := by
  intro H enc W base spare held fuel cs x h
  obtain ⟨s, h1, _, h2⟩ := DataW.trod_string hu h
  exact ⟨s, h1, h2⟩
theorem list_of {α : Type} {p : Nat → α → Prop} : ∀ (n : Nat), (∀ i, i < n → ∃ y, p i y) → ∃ l : List α, l.length = n ∧ ∀ i y, l[i]? = some y → p i y
  | 0, _ => ⟨[], rfl, fun i y h => by simp at h⟩
  | n + 1, h => by
    obtain ⟨l, h1, h2⟩ := list_of n (fun i hi => h i (by omega))
    obtain ⟨y, hy⟩ := h n (by omega)
    refine ⟨l ++ [y], by simp [h1], fun i z hz => ?_⟩
    by_cases e : i < n
    · rw [List.getElem?_append_left (by omega)] at hz; exact h2 i z hz
    · rw [List.getElem?_append_right (by omega)] at hz
      have : i = n := by
        have := (List.getElem?_eq_some_iff.1 hz).1
        simp at this; omega
      subst this
      rw [h1] at hz; simp at hz; subst hz; exact hy
theorem opn_slice {P : Program} {α : Type} {d : Kd α} {t e : TypeId} {Q : α → Prop} (hu : P.underlying t = some (.slice e)) (hc : P.cellsOf e = d.sz) (h : Opn P d e Q) :
    Opn P (Kd.slice e d) t (fun l => l.length ≤ maxLen ∧ ∀ x ∈ l, Q x) := by
  intro H enc W base spare held fuel cs x hx
  rcases open_slice hu hx with ⟨rfl, rfl⟩ | ⟨a, len, cap, m, n, D, Pl, rfl, hb, hl, hm, hmm, rfl, hel⟩
  · exact ⟨[], ⟨none, 0, rfl, Nat.le_refl _, rfl, by simp, fun h => by simp at h⟩, by simp, by simp⟩
  · have hlm : len ≤ m := by rw [hmm]; split <;> omega
    have each : ∀ i, i < len → ∃ y : α, (∃ c : List Value, W.cells? base (a.add (i * P.cellsOf e)) (P.cellsOf e) = some c ∧ d.K W y c) ∧ Q y := by
      intro i hi
      obtain ⟨c, h1, h2⟩ := hel i (by omega)
      obtain ⟨y, h3, h4⟩ := h H enc W base spare held n c _ h2
      exact ⟨y, ⟨c, h1, h3⟩, h4⟩
    obtain ⟨l, ll, hl2⟩ := list_of len each
    have hmx : maxLen = 9223372036854775807 := rfl
    refine ⟨l, ⟨some a, cap, by rw [ll], by omega, rfl, by omega, fun _ => ⟨a, rfl, fun j p hp => ?_⟩⟩, by omega, fun y hy => ?_⟩
    · obtain ⟨⟨c, h1, h2⟩, _⟩ := hl2 j p hp
      obtain ⟨_, h3, h4⟩ := World.cells?_some h1
      refine ⟨c, by rw [h3, hc], h2, fun i u hu2 => ?_⟩
      have hi : i < P.cellsOf e := by rw [← h3]; exact (List.getElem?_eq_some_iff.1 hu2).1
      rw [← hc, ← Deep.add_add, h4 i hi]; exact hu2
    · obtain ⟨i, hi⟩ := List.getElem?_of_mem hy
      exact (hl2 i y hi).2
/-- Field by field: the cells are cut into those of types ts, each reads as data. -/
def Reads {H : Type} (enc : TypeId × Value → H) (P : Program) (W : World) (base : Nat) (spare : Nat → Bool) (held : Bool) : List TypeId → List Value → Prop
  | [], cs => cs = []
  | t :: ts, cs => ∃ c0 c1, cs = c0 ++ c1 ∧ (∃ n x, DataW.trod enc P W base spare held n t c0 = some x) ∧ Reads enc P W base spare held ts c1
def OpnF (P : Program) {α : Type} (d : Kd α) (ts : List TypeId) (Q : α → Prop) : Prop :=
  ∀ (H : Type) (enc : TypeId × Value → H) (W : World) (base : Nat) (spare : Nat → Bool) (held : Bool) (cs : List Value), Reads enc P W base spare held ts cs → ∃ y, d.K W y cs ∧ Q y
theorem opnF_one {P : Program} {α : Type} {d : Kd α} {t : TypeId} {Q : α → Prop} (h : Opn P d t Q) : OpnF P d [t] Q := by
  intro H enc W base spare held cs hr
  obtain ⟨c0, c1, rfl, ⟨n, x, hx⟩, h1⟩ := hr
  obtain rfl : c1 = [] := h1
  rw [List.append_nil]
  exact h H enc W base spare held n c0 x hx
theorem opnF_cons {P : Program} {α β : Type} {d : Kd α} {e : Kd β} {t : TypeId} {ts : List TypeId} {Q : α → Prop} {R : β → Prop} (h : Opn P d t Q) (k : OpnF P e ts R) : OpnF P (Kd.pair d e) (t :: ts) (fun y => Q y.1 ∧ R y.2) := by
  intro H enc W base spare held cs hr
  obtain ⟨c0, c1, rfl, ⟨n, x, hx⟩, h1⟩ := hr
  obtain ⟨y, h2, h3⟩ := h H enc W base spare held n c0 x hx
  obtain ⟨z, h4, h5⟩ := k H enc W base spare held c1 h1
  exact ⟨(y, z), ⟨c0, c1, rfl, h2, h4⟩, h3, h5⟩
/-- The fields lie one behind the other. -/
def laidFields (P : Program) : Nat → List Field → Nat → Bool
  | o, [], n => decide (o = n)
  | o, f :: fs, n => decide (f.offset = o) && laidFields P (o + P.cellsOf f.type) fs n
theorem laid_le (P : Program) : ∀ (fs : List Field) (o n : Nat), laidFields P o fs n = true → o ≤ n
  | [], o, n, h => by simp [laidFields] at h; omega
  | f :: fs, o, n, h => by
    simp [laidFields] at h
    have := laid_le P fs _ n h.2; omega
theorem reads_fields {H : Type} {enc : TypeId × Value → H} {P : Program} {W : World} {base : Nat} {spare : Nat → Bool} {held : Bool} (n : Nat) (cs : List Value) (xs : List (DataW H × List MemPlace)) :
    ∀ (fs : List Field) (o j : Nat), laidFields P o fs cs.length = true → j + fs.length = xs.length → (∀ (i : Nat) (f : Field), fs[i]? = some f → DataW.trod enc P W base spare held n f.type ((cs.drop f.offset).take (P.cellsOf f.type)) = xs[j + i]?) →
      Reads enc P W base spare held (fs.map (·.type)) (cs.drop o)
  | [], o, j, h, _, _ => by
    simp [laidFields] at h
    exact List.drop_eq_nil_of_le (by omega)
  | f :: fs, o, j, h, hl, hx => by
    simp [laidFields] at h
    have le := laid_le P fs _ _ h.2
    refine ⟨(cs.drop o).take (P.cellsOf f.type), cs.drop (o + P.cellsOf f.type), by rw [← List.drop_drop, List.take_append_drop], ?_, reads_fields n cs xs fs _ (j + 1) h.2 (by simp at hl; omega) (fun i g hg => ?_)⟩
    · have := hx 0 f rfl
      rw [h.1] at this
      have hj : j < xs.length := by simp at hl; omega
      rw [Nat.add_zero, List.getElem?_eq_getElem hj] at this
      exact ⟨n, _, this⟩
    · rw [show j + 1 + i = j + (i + 1) by omega]
      exact hx (i + 1) g (by simpa using hg)
theorem opn_struct {P : Program} {α : Type} {d : Kd α} {t : TypeId} {fs : Array Field} {ts : List TypeId} {Q : α → Prop} (hu : P.underlying t = some (.struct fs)) (hl : laidFields P 0 fs.toList (P.cellsOf t) = true) (ht : fs.toList.map (·.type) = ts) (h : OpnF P d ts Q) : Opn P d t Q := by
  intro H enc W base spare held fuel cs x hx
  obtain ⟨xs, n, _, _, h1, h2, h3⟩ := DataW.trod_struct hu hx
  subst ht
  refine h H enc W base spare held cs ?_
  have := reads_fields (enc := enc) (W := W) (base := base) (spare := spare) (held := held) n cs xs fs.toList 0 0 (by rw [h1]; exact hl) (by rw [Array.length_toList]; omega) (fun i f hf => by rw [Nat.zero_add]; exact h3 i f (by simpa using hf))
  simpa using this
theorem opn_iso {P : Program} {α β : Type} {d : Kd α} {t : TypeId} {Q : α → Prop} (f : β → α) (g : α → β) (hfg : ∀ x, f (g x) = x) (h : Opn P d t Q) : Opn P (Kd.iso d f) t (fun y => Q (f y)) := by
  intro H enc W base spare held fuel cs x hx
  obtain ⟨y, h1, h2⟩ := h H enc W base spare held fuel cs x hx
  exact ⟨g y, by show d.K W (f (g y)) cs; rw [hfg]; exact h1, by show Q (f (g y)); rw [hfg]; exact h2⟩
theorem opn_imp {P : Program} {α : Type} {d : Kd α} {t : TypeId} {Q R : α → Prop} (h : Opn P d t Q) (hq : ∀ x, Q x → R x) : Opn P d t R := by
  intro H enc W base spare held fuel cs x hx
  obtain ⟨y, h1, h2⟩ := h H enc W base spare held fuel cs x hx
  exact ⟨y, h1, hq y h2⟩
/-- An argument that is a slice, opened. -/
theorem arg_slice {H : Type} {enc : TypeId × Value → H} {P : Program} {W : World} {base b0 : Nat} {spare : Nat → Bool} {held : Bool} {α : Type} {d : Kd α} {t e : TypeId} {Q : List α → Prop} {v : Value} {D : DataW H} {ps : List MemPlace} {r : Reach}
    (hu : P.underlying t = some (.slice e)) (hv : Value.okWide P W r b0 t v) (ht : DataW.Trod enc P W base spare held t v D ps) (h : Opn P (Kd.slice e d) t Q) :
    ∃ A c l, v = .slice A l.length c ∧ l.length ≤ c ∧ d.C W A l.length l ∧ Q l := by
  obtain ⟨A, n, c, rfl⟩ := okWide_slice hu hv
  obtain ⟨fuel, hf⟩ := ht
  obtain ⟨y, ⟨A', c', h1, h2, h3⟩, h4⟩ := h H enc W base spare held fuel _ _ hf
  simp [Value.cells] at h1
  obtain ⟨rfl, rfl, rfl⟩ := h1
  exact ⟨A, c, y, rfl, h2, h3, h4⟩
/-- An argument that is a struct, opened. -/
theorem arg_struct {H : Type} {enc : TypeId × Value → H} {P : Program} {W : World} {base b0 : Nat} {spare : Nat → Bool} {held : Bool} {α : Type} {d : Kd α} {t : TypeId} {fs : Array Field} {Q : α → Prop} {v : Value} {D : DataW H} {ps : List MemPlace} {r : Reach}
    (hu : P.underlying t = some (.struct fs)) (hv : Value.okWide P W r b0 t v) (ht : DataW.Trod enc P W base spare held t v D ps) (h : Opn P d t Q) :
    ∃ (y : α) (cs : List Value), v = .agg cs.toArray ∧ d.K W y cs ∧ Q y := by
  obtain ⟨cs, rfl, _⟩ := okWide_struct hu hv
  obtain ⟨fuel, hf⟩ := ht
  obtain ⟨y, h1, h2⟩ := h H enc W base spare held fuel _ _ hf
  exact ⟨y, cs.toList, by simp, h1, h2⟩
end Go.Proofs.Ytbhkinfdilngiaa.O

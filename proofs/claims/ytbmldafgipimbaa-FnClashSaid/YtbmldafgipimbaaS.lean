/- Sets of texts: a 'map[string]bool' that a call makes and keeps to itself, and rows of texts beside it. No condition. -/
import Derived.WalkKit
import Derived.Maps.OwnSet
import Derived.Maps.AppendAt
import Derived.StringKeys
import Derived.Test.YtbmldafgipimbaaL
namespace Go.Proofs.Ytbmldafgipimbaa.S
open Go.RowKit Go.Maps Go.WideMaps
set_option linter.unusedVariables false
/-- Block b of w is a map of at most n entries that answers true at the texts of xs, at no others. -/
def SetIs (P : Program) (k e : TypeId) (w : World) (b n : Nat) (xs : List ByteArray) : Prop :=
  ∃ D : DataW Unit, w.ownsMap P k (plainElem P e) b n D ∧ ∀ s : ByteArray, D.atKey (.string s.data.toList) (.lit (.bool false)) = .lit (.bool (xs.any fun y => decide (y = s)))
theorem bool_inv {P : Program} {e : TypeId} (he : P.underlying e = some .bool) {v : Value} {c : Bool} {ps : List MemPlace} (h : plainElem (H := Unit) P e v = some (.lit (.bool c), ps)) : v = .bool c := by
  unfold plainElem at h
  rw [he] at h
  cases v <;> simp at h
  rw [h.1]
theorem str_inj {s t : ByteArray} (h : (Lit.string s.data.toList) = Lit.string t.data.toList) : s = t := by
  injection h with h
  cases s; cases t; simp at h; subst h; rfl
theorem SetIs.made {P : Program} {k e : TypeId} (w : World) : SetIs P k e (w.alloc (.map #[] 0)) w.heap.size 0 [] :=
  ⟨_, World.ownsMap_made w P k _, fun s => rfl⟩
theorem SetIs.keep {P : Program} {k e : TypeId} {w w' : World} {b n : Nat} {xs : List ByteArray} (h : SetIs P k e w b n xs) (hb : w'.heap[b]? = w.heap[b]?) : SetIs P k e w' b n xs := by
  obtain ⟨D, ⟨es, clock, h1, h2⟩, h3⟩ := h
  exact ⟨D, ⟨es, clock, by rw [hb]; exact h1, h2⟩, h3⟩
theorem SetIs.map {P : Program} {k e : TypeId} {w : World} {b n : Nat} {xs : List ByteArray} (h : SetIs P k e w b n xs) : ∃ es clock, w.heap[b]? = some (.map es clock) := by
  obtain ⟨D, ⟨es, clock, h1, h2⟩, h3⟩ := h
  exact ⟨es, clock, h1⟩
theorem SetIs.lt {P : Program} {k e : TypeId} {w : World} {b n : Nat} {xs : List ByteArray} (h : SetIs P k e w b n xs) : b < w.heap.size := by
  obtain ⟨es, clock, h1⟩ := h.map
  exact (Array.getElem?_eq_some_iff.1 h1).1
/-- 'm[x]' at the operation. -/
theorem wpList_lookup_set {P : Program} (w : World) {ops : Array Oper} {rest : List Oper} {o : Oper} {a : Act} {Q : Exit → Act → World → Prop}
    (hg : o.guard = none) (m x : Operand) (t : TypeId) (hop : o.op = Op.lookup t m x false)
    (k e : TypeId) (hk : P.underlying k = some .string) (ht : P.underlying t = some (.map k e)) (he : P.underlying e = some .bool) (hz : (zeroValue e).run P w = .ok (.bool false) w) (b n : Nat) (xs : List ByteArray)
    (hm : a.eval m = .map (some b)) (hown : SetIs P k e w b n xs) (s : ByteArray) (hx : a.eval x = .string s) (hs : s.size ≤ maxLen)
    (hK : wpList P ops Q rest (a.put o.dst (.bool (xs.any fun y => decide (y = s)))) w) :
    wpList P ops Q (o :: rest) a w := by
  refine wpList_plain hg fun K' hK' => ?_
  obtain ⟨D, ho, hD⟩ := hown
  obtain ⟨v, ps, hrun, hat⟩ := ho.lookup (string_keyed hk) ht hz (plainElem_bool he false) (keyOf_string_mk hk hs)
  rw [hD s] at hat
  obtain rfl := bool_inv he hat
  unfold Oper.wp
  simp [execOp, hop, hm, hx, hrun, Result.andThen]
  exact hK' _ _ hK
/-- 'm[x] = true' at the operation. -/
theorem wpList_update_set {P : Program} (w : World) {ops : Array Oper} {rest : List Oper} {o : Oper} {a : Act} {Q : Exit → Act → World → Prop}
    (hg : o.guard = none) (m x v : Operand) (t : TypeId) (hop : o.op = Op.mapUpdate t m x v)
    (k e : TypeId) (hk : P.underlying k = some .string) (ht : P.underlying t = some (.map k e)) (he : P.underlying e = some .bool) (b n : Nat) (xs : List ByteArray)
    (hm : a.eval m = .map (some b)) (hown : SetIs P k e w b n xs) (hn : n < maxLen) (s : ByteArray) (hx : a.eval x = .string s) (hv : a.eval v = .bool true) (hs : s.size ≤ maxLen)
    (hK : ∀ w', SetIs P k e w' b (n + 1) (xs ++ [s]) → w.grownBy w' (some b) → wpList P ops Q rest (a.put o.dst undef) w') :
    wpList P ops Q (o :: rest) a w := by
  obtain ⟨D, ho, hD⟩ := hown
  have K := string_keyed hk
  refine wpList_mapUpdate_own w hg m x v t hop k e K ht _ b n D hm ho hn _ _ _ hx hv (keyOf_string_mk hk hs) _ _ (plainElem_bool he true) fun w' h1 h2 => hK w' ⟨_, h1, fun t => ?_⟩ h2
  by_cases c : s = t
  · subst c
    rw [atKey_put_same ho.isMap (K.key (keyOf_string_mk hk hs))]
    simp
  · rw [atKey_put_other (fun z => c (str_inj z).symm), hD t]
    simp [c]
/-- A row of texts, none of whose cells lies in block m. -/
def Row (m : Nat) (w : World) (A : Option Addr) (xs : List ByteArray) : Prop :=
  ∀ (j : Nat) (x : ByteArray), xs[j]? = some x → ∃ b off, A = some ⟨b, off, none⟩ ∧ b ≠ m ∧ w.cell? ⟨b, off + j, none⟩ = some (.string x)
theorem cell_heap {w w' : World} {b : Nat} (hb : w'.heap[b]? = w.heap[b]?) (j : Nat) : w'.cell? ⟨b, j, none⟩ = w.cell? ⟨b, j, none⟩ := by
  simp [World.cell?, hb]
theorem Row.keep {m : Nat} {w w' : World} {A : Option Addr} {xs : List ByteArray} (h : Row m w A xs) (hh : ∀ i, i < w.heap.size → i ≠ m → w'.heap[i]? = w.heap[i]?) : Row m w' A xs := by
  intro j x hj
  obtain ⟨b, off, e, hb, hc⟩ := h j x hj
  refine ⟨b, off, e, hb, ?_⟩
  rw [cell_heap (hh b (World.block_lt_of_cell? w _ hc) hb)]
  exact hc
theorem Row.of {P : Program} {k e : TypeId} {m n : Nat} {w : World} {A : Option Addr} {ys xs : List ByteArray} (h : Go.Proofs.YtbmldafgipimbaaW.PrintWords.Kd.C Go.Proofs.YtbmldafgipimbaaW.PrintWords.Kd.string w A xs.length xs) (hm : ∀ v j, w.cell? ⟨m, j, none⟩ ≠ some v) : Row m w A xs := by
  intro j x hj
  have hp : 0 < xs.length := by have := (List.getElem?_eq_some_iff.1 hj).1; omega
  obtain ⟨b, off, e, hc⟩ := Go.Proofs.Ytbmldafgipimbaa.L.cells_at h hp
  refine ⟨b, off, e, fun z => ?_, hc j x hj⟩
  subst z
  exact hm _ _ (hc j x hj)
theorem SetIs.no_cell {P : Program} {k e : TypeId} {w : World} {b n : Nat} {xs : List ByteArray} (h : SetIs P k e w b n xs) (v : Value) (j : Nat) : w.cell? ⟨b, j, none⟩ ≠ some v := by
  obtain ⟨es, clock, h1⟩ := h.map
  simp [World.cell?, h1]
end Go.Proofs.Ytbmldafgipimbaa.S

/- Groups of texts: a 'map[string][]string' that a call makes and keeps to itself, each element a row of its own. No condition. -/
import Derived.Test.YtbmldafgipimbaaS
import Derived.Maps.AppendAt
namespace Go.Proofs.Ytbmldafgipimbaa.S
open Go.RowKit Go.Maps Go.WideMaps
set_option linter.unusedVariables false
/-- A slice's head as a datum. -/
def hdR : Value → Option (DataW Unit × List MemPlace)
  | .slice none 0 0 => some (.nil, [])
  | .slice (some ⟨g, 0, none⟩) n c => some (.agg [.lit (.int .i64 (g : Int)), .lit (.int .i64 (n : Int)), .lit (.int .i64 (c : Int))], [])
  | _ => none
theorem hdR_inj {v u : Value} {d : DataW Unit} {ps qs : List MemPlace} (h : hdR v = some (d, ps)) (k : hdR u = some (d, qs)) : v = u := by
  unfold hdR at h k
  split at h <;> split at k <;> simp_all <;> obtain ⟨h1, h2⟩ := h <;> obtain ⟨k1, k2⟩ := k <;> subst h1 <;> simp_all <;> omega
theorem hdR_row {w : World} {base n : Nat} {e : TypeId} {v : Value} {xs : List Value} (h : w.ownsRow base e 1 v n xs) : ∃ d, hdR v = some (d, []) := by
  rcases h.2 with ⟨rfl, _⟩ | ⟨g, cap, cur, rfl, _⟩
  · exact ⟨_, rfl⟩
  · exact ⟨_, rfl⟩
/-- Block b of w is a map whose element at s is the slice hd s, which owns the row xs s, from block base on; no two elements share a block. -/
structure Groups (P : Program) (k e : TypeId) (w : World) (b base n : Nat) (hd : ByteArray → Value) (xs : ByteArray → List ByteArray) : Prop where
  map : ∃ D : DataW Unit, w.ownsMap P k hdR b n D ∧ ∀ s : ByteArray, hdR (hd s) = some (D.atKey (.string s.data.toList) .nil, [])
  row : ∀ s, w.ownsRow base e 1 (hd s) (xs s).length ((xs s).map Value.string)
  apart : ∀ s t, s ≠ t → ∀ g, (hd s).ownBlock = some g → (hd t).ownBlock ≠ some g
  low : b < base
def upd {α : Type} (f : ByteArray → α) (s : ByteArray) (a : α) : ByteArray → α := fun t => if t = s then a else f t
theorem Groups.made {P : Program} {k e : TypeId} (w : World) : Groups P k e (w.alloc (.map #[] 0)) w.heap.size (w.heap.size + 1) 0 (fun _ => .slice none 0 0) (fun _ => []) :=
  ⟨⟨_, World.ownsMap_made w P k _, fun s => rfl⟩, fun s => World.ownsRow_nil _ _ _ _, fun s t _ g h => by simp [Value.ownBlock] at h, Nat.lt_succ_self _⟩
theorem Groups.lt {P : Program} {k e : TypeId} {w : World} {b base n : Nat} {hd : ByteArray → Value} {xs : ByteArray → List ByteArray} (h : Groups P k e w b base n hd xs) : b < w.heap.size := by
  obtain ⟨D, ho, _⟩ := h.map
  exact ho.lt
theorem Groups.keep {P : Program} {k e : TypeId} {w w' : World} {b base n : Nat} {hd : ByteArray → Value} {xs : ByteArray → List ByteArray} (h : Groups P k e w b base n hd xs) (hg : w.grownBy w' none) : Groups P k e w' b base n hd xs := by
  obtain ⟨D, ho, hD⟩ := h.map
  exact ⟨⟨D, ho.kept hg (by simp), hD⟩, fun s => (h.row s).kept hg (by cases (hd s).ownBlock <;> simp), h.apart, h.low⟩
theorem Groups.no_cell {P : Program} {k e : TypeId} {w : World} {b base n : Nat} {hd : ByteArray → Value} {xs : ByteArray → List ByteArray} (h : Groups P k e w b base n hd xs) (v : Value) (j : Nat) : w.cell? ⟨b, j, none⟩ ≠ some v := by
  obtain ⟨D, ⟨es, clock, h1, _⟩, _⟩ := h.map
  simp [World.cell?, h1]
theorem wpList_lookup_group {P : Program} (w : World) {ops : Array Oper} {rest : List Oper} {o : Oper} {a : Act} {Q : Exit → Act → World → Prop}
    (hg : o.guard = none) (m x : Operand) (t : TypeId) (hop : o.op = Op.lookup t m x false)
    (k E e : TypeId) (hk : P.underlying k = some .string) (ht : P.underlying t = some (.map k E)) (hz : (zeroValue E).run P w = .ok (.slice none 0 0) w) (b base n : Nat) (hd : ByteArray → Value) (xs : ByteArray → List ByteArray)
    (hm : a.eval m = .map (some b)) (hown : Groups P k e w b base n hd xs) (s : ByteArray) (hx : a.eval x = .string s) (hs : s.size ≤ maxLen)
    (hK : wpList P ops Q rest (a.put o.dst (hd s)) w) :
    wpList P ops Q (o :: rest) a w := by
  refine wpList_plain hg fun K' hK' => ?_
  obtain ⟨D, ho, hD⟩ := hown.map
  obtain ⟨v, ps, hrun, hat⟩ := ho.lookup (string_keyed hk) ht hz (zd := .nil) (zp := []) rfl (keyOf_string_mk hk hs)
  obtain rfl := hdR_inj hat (hD s)
  unfold Oper.wp
  simp [execOp, hop, hm, hx, hrun, Result.andThen]
  exact hK' _ _ hK
theorem grown_trans {w w1 w2 : World} {row : Option Nat} (h : w.grownBy w1 none) (k : w1.grownBy w2 row) : w.grownBy w2 row :=
  ⟨k.os.trans h.os, k.tape.trans h.tape, k.output.trans h.output, Nat.le_trans h.size k.size, fun i hi hn => (k.block i (Nat.lt_of_lt_of_le hi h.size) hn).trans (h.block i hi (by simp))⟩
theorem wpList_update_group {P : Program} {w0 : World} (w : World) {ops : Array Oper} {rest : List Oper} {o : Oper} {a : Act} {Q : Exit → Act → World → Prop}
    (hg : o.guard = none) (m x v : Operand) (t : TypeId) (hop : o.op = Op.mapUpdate t m x v)
    (k E e : TypeId) (hk : P.underlying k = some .string) (ht : P.underlying t = some (.map k E)) (b base n : Nat) (hd : ByteArray → Value) (xs : ByteArray → List ByteArray)
    (hm : a.eval m = .map (some b)) (hown : Groups P k e w0 b base n hd xs) (hn : n < maxLen) (s : ByteArray) (hx : a.eval x = .string s) (hs : s.size ≤ maxLen)
    (v' : Value) (ys : List ByteArray) (hv : a.eval v = v') (hgr : w0.grownBy w (hd s).ownBlock) (hrow : w.ownsRow base e 1 v' ys.length (ys.map Value.string)) (hloc : v'.ownBlock = (hd s).ownBlock ∨ ∃ g, v'.ownBlock = some g ∧ w0.heap.size ≤ g)
    (hK : ∀ w', Groups P k e w' b base (n + 1) (upd hd s v') (upd xs s ys) → w.grownBy w' (some b) → wpList P ops Q rest (a.put o.dst undef) w') :
    wpList P ops Q (o :: rest) a w := by
  obtain ⟨D, ho, hD⟩ := hown.map
  have K := string_keyed hk
  have nb : ∀ u (g : Nat), (hd u).ownBlock = some g → base ≤ g ∧ g < w0.heap.size := fun u g hu => (hown.row u).lt g hu
  have hob : some b ≠ (hd s).ownBlock := fun z => by have := (nb s b z.symm).1; have := hown.low; omega
  obtain ⟨d, hd'⟩ := hdR_row hrow
  refine wpList_mapUpdate_own w hg m x v t hop k E K ht _ b n D hm (ho.kept hgr hob) hn _ _ _ hx hv (keyOf_string_mk hk hs) _ _ hd' fun w' h1 h2 => hK w' ?_ h2
  refine ⟨⟨_, h1, fun u => ?_⟩, fun u => ?_, fun u z huz g hu hz => ?_, hown.low⟩
  · unfold upd
    by_cases c : u = s
    · subst c
      rw [if_pos rfl, atKey_put_same (ho.kept hgr hob).isMap (K.key (keyOf_string_mk hk hs))]
      exact hd'
    · rw [if_neg c, atKey_put_other (fun z => c (str_inj z))]
      exact hD u
  · unfold upd
    by_cases c : u = s
    · rw [if_pos c, if_pos c]
      refine hrow.kept h2 ?_
      cases q : v'.ownBlock with
      | none => exact Or.inl rfl
      | some g => exact Or.inr (fun z => by injection z with z; subst z; have := (hrow.lt g q).1; have := hown.low; omega)
    · rw [if_neg c, if_neg c]
      have r1 := (hown.row u).kept hgr (by
        cases q : (hd u).ownBlock with
        | none => exact Or.inl rfl
        | some g => exact Or.inr (fun z => hown.apart u s c g q z.symm))
      refine r1.kept h2 ?_
      cases q : (hd u).ownBlock with
      | none => exact Or.inl rfl
      | some g => exact Or.inr (fun z => by injection z with z; subst z; have := (nb u g q).1; have := hown.low; omega)
  · unfold upd at hu hz
    by_cases c : u = s
    · rw [if_pos c] at hu
      by_cases c2 : z = s
      · exact huz (c.trans c2.symm)
      · rw [if_neg c2] at hz
        rcases hloc with e1 | ⟨g', e1, e2⟩
        · rw [e1] at hu
          exact hown.apart s z (fun q => c2 q.symm) g hu hz
        · rw [e1] at hu
          injection hu with hu; subst hu
          have := (nb z g' hz).2; omega
    · rw [if_neg c] at hu
      by_cases c2 : z = s
      · rw [if_pos c2] at hz
        rcases hloc with e1 | ⟨g', e1, e2⟩
        · rw [e1] at hz
          exact hown.apart u s c g hu hz
        · rw [e1] at hz
          injection hz with hz; subst hz
          have := (nb u g' hu).2; omega
      · rw [if_neg c2] at hz
        exact hown.apart u z huz g hu hz
end Go.Proofs.Ytbmldafgipimbaa.S

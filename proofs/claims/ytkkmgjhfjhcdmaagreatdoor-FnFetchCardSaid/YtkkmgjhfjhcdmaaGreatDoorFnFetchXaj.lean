/- A machine over values for Go functions, proved sound, and functions run on it: texts J1, V3b, V4, VL, Ty, B5, VR, VS, B6, J2, VP, VN. -/
import Derived.Deep.Slices
import Derived.ChangeArms
import Derived.WideShapes
import Derived.Below
import Derived.Lib.ItoaNum
import Derived.Lib.HexFns
import Derived.Test.YtkkmgjhfjhcdmaaGreatDoorProg
import Derived.Shelf.LaysM
import Derived.Shelf.Strconv.Itoa3
import Derived.Shelf.Hex.More
import Derived.Test.YtkkmgjhfjhcdmaaGreatDoorShD
import Derived.Test.YtkkmgjhfjhcdmaaGreatDoorShE
import Derived.Lib.Split
import Derived.Lib.HexFns2
import Derived.Lib.AtoiAll
import Derived.Lib.ShelfFacts
import Derived.Lib.Atoi
import Derived.Shelf.Hex.Decode
import Derived.Shelf.Strings.Split
import Derived.Shelf.Small.Wraps
import Derived.Shelf.Strconv.Atoi
import Derived.Shelf.Strconv.AtoiErr
import Derived.Test.YtkkmgjhfjhcdmaaGreatDoorShF
import Derived.Test.YtkkmgjhfjhcdmaaGreatDoorShG
import Derived.Test.YtkkmgjhfjhcdmaaGreatDoorShH
import Derived.Test.YtkkmgjhfjhcdmaaGreatDoorShI
import Derived.Lib.LaidTab
import Derived.Stop.LaidErr
import Derived.MakeChecks
import Derived.Test.YtkkmgjhfjhcdmaaGreatDoorRows
import Derived.SizedLaws
import Derived.HandedShaped
import Derived.Test.YtkkmgjhfjhcdmaaGreatDoorFnFetchXai
set_option linter.all false
namespace Go.Proofs.YtkkmgjhfjhcdmaaGreatDoor.Mx
open Go Go.RowKit
open Go.ChangeShapes Go.WideShapes Go.Deep
def CellsR (W : Go.World) (cs : List Value) (row : Row) : Prop :=
  cs.length = row.length ∧ ∀ (j : Nat) (v : Value) (a : AV), cs[j]? = some v → row[j]? = some a → Rep W (fun b => b < W.heap.size) v a ∧ v.oneCell' = true ∧ (∀ z r, a ≠ .sl true z r) ∧ ∀ c, a ≠ .pb true c
def OpnA (P : Program) {α : Type} (f : α → Row) (t : TypeId) (Q : α → Prop) : Prop :=
  ∀ (H : Type) (enc : TypeId × Value → H) (W : Go.World) (base : Nat) (spare : Nat → Bool) (held : Bool) (fuel : Nat) (cs : List Value) (x : DataW H × List MemPlace),
    DataW.trod enc P W base spare held fuel t cs = some x → ∃ y, CellsR W cs (f y) ∧ Q y
theorem cellsR_one {W : Go.World} {v : Value} {a : AV} (h : Rep W (fun b => b < W.heap.size) v a) (h1 : v.oneCell' = true) (h2 : ∀ z r, a ≠ .sl true z r) (h3 : ∀ c, a ≠ .pb true c) : CellsR W [v] [a] :=
  ⟨rfl, fun j u b hu hb => by
    cases j with
    | zero => simp at hu hb; subst hu; subst hb; exact ⟨h, h1, h2, h3⟩
    | succ j => simp at hu⟩
def bdU8 (n : Int) : Prop := 0 ≤ n ∧ n ≤ 255
theorem opn_u8 {P : Program} {t : TypeId} (hu : P.underlying t = some (.int .u8)) : OpnA P numR t bdU8 := by
  intro H enc W base spare held fuel cs x h
  obtain ⟨n, rfl, _, h2⟩ := DataW.trod_int hu h
  refine ⟨n, cellsR_one (.sc _ rfl) rfl (by intro z r h; cases h) (by intro c h; cases h), ?_⟩
  simp [Lit.wf, IntKind.min, IntKind.max, IntKind.signed, IntKind.bits] at h2
  unfold bdU8
  omega
theorem list_of {α : Type} {p : Nat → α → Prop} : ∀ (n : Nat), (∀ i, i < n → ∃ y, p i y) → ∃ l : List α, l.length = n ∧ ∀ i y, l[i]? = some y → p i y
  | 0, _ => ⟨[], rfl, fun i y h => by simp at h⟩
  | n + 1, h => by
    obtain ⟨l, h1, h2⟩ := list_of n (fun i hi => h i (by omega))
    obtain ⟨y, hy⟩ := h n (by omega)
    refine ⟨l ++ [y], by simp [h1], fun i z hz => ?_⟩
    by_cases e : i < n
    · rw [List.getElem?_append_left (by omega)] at hz; exact h2 i z hz
    · rw [List.getElem?_append_right (by omega)] at hz
      have : i = n := by
        have := (List.getElem?_eq_some_iff.1 hz).1
        simp at this; omega
      subst this
      rw [h1] at hz; simp at hz; subst hz; exact hy
theorem opn_slice {P : Program} {α : Type} {f : α → Row} {z : Nat} {t e : TypeId} {Q : α → Prop} (hu : P.underlying t = some (.slice e)) (hc : P.cellsOf e = z) (hz : 1 ≤ z) (hf : ∀ y, (f y).length = z) (h : OpnA P f e Q) :
    OpnA P (fun l : List α => [.sl false z (l.map f)]) t (bdL Q) := by
  intro H enc W base spare held fuel cs x hx
  rcases open_slice hu hx with ⟨rfl, rfl⟩ | ⟨a, len, cap, m, n, D, Pl, rfl, hb, hl, hm, hmm, rfl, hel⟩
  · exact ⟨[], cellsR_one (.nil _ _) rfl (by intro z r h; cases h) (by intro c h; cases h), by simp [bdL]⟩
  · have hlm : len ≤ m := by rw [hmm]; split <;> omega
    subst hc
    have each : ∀ i, i < len → ∃ y : α, (∃ c : List Value, W.cells? base (a.add (i * P.cellsOf e)) (P.cellsOf e) = some c ∧ CellsR W c (f y)) ∧ Q y := by
      intro i hi
      obtain ⟨c, h1, h2⟩ := hel i (by omega)
      obtain ⟨y, h3, h4⟩ := h H enc W base spare held n c _ h2
      exact ⟨y, ⟨c, h1, h3⟩, h4⟩
    obtain ⟨l, ll, hl2⟩ := list_of len each
    have hmx : maxLen = 9223372036854775807 := rfl
    have hQ : bdL Q l := ⟨by omega, fun y hy => by
      obtain ⟨i, hi⟩ := List.getElem?_of_mem hy
      exact (hl2 i y hi).2⟩
    refine ⟨l, ?_, hQ⟩
    rcases Nat.eq_zero_or_pos len with h0 | h0
    · subst h0
      obtain rfl := List.eq_nil_of_length_eq_zero ll
      exact cellsR_one (.emp _ _ a cap) rfl (by intro z r h; cases h) (by intro c h; cases h)
    · -- the first cell tells that the address is plain
      have cell : ∀ i y j v, l[i]? = some y → (∃ c : List Value, W.cells? base (a.add (i * P.cellsOf e)) (P.cellsOf e) = some c ∧ c[j]? = some v) → W.cell? (a.add (i * P.cellsOf e + j)) = some v := by
        intro i y j v hi ⟨c, h1, h2⟩
        obtain ⟨_, h3, h4⟩ := World.cells?_some h1
        have := (List.getElem?_eq_some_iff.1 h2).1
        rw [← Deep.add_add, h4 j (by omega)]; exact h2
      obtain ⟨y0, hy0⟩ := (⟨_, List.getElem?_eq_getElem (by omega : 0 < l.length)⟩ : ∃ y, l[0]? = some y)
      obtain ⟨⟨c0, k1, k2⟩, _⟩ := hl2 0 y0 hy0
      have hc0 : 0 < c0.length := by rw [k2.1, hf]; exact hz
      have w0 := cell 0 y0 0 _ hy0 ⟨c0, k1, List.getElem?_eq_getElem hc0⟩
      obtain ⟨b, off, sp⟩ := a
      have hsp : sp = none := by
        cases sp with
        | none => rfl
        | some q =>
          simp [Addr.add, World.cell?] at w0
          split at w0 <;> simp at w0
      subst hsp
      have hadd : ∀ k, (⟨b, off, none⟩ : Addr).add k = ⟨b, off + k, none⟩ := fun k => by unfold Addr.add; split <;> simp_all
      have hblk : b < W.heap.size := by
        rw [hadd] at w0
        simp only [World.cell?] at w0
        cases hb2 : W.heap[b]? with
        | none => rw [hb2] at w0; simp at w0
        | some o => exact (Array.getElem?_eq_some_iff.1 hb2).1
      have hlen : (l.map f).length = len := by rw [List.length_map, ll]
      have row : ∀ (i : Nat) (r : Row), (l.map f)[i]? = some r → ∃ y, l[i]? = some y ∧ r = f y := fun i r hr => by
        rw [List.getElem?_map] at hr
        cases hy : l[i]? with
        | none => rw [hy] at hr; cases hr
        | some y => rw [hy] at hr; cases hr; exact ⟨y, rfl, rfl⟩
      have val : ∀ (i : Nat) (r : Row) (j : Nat) (x : AV), (l.map f)[i]? = some r → r[j]? = some x → ∃ v, W.cell? ⟨b, off + (i * P.cellsOf e + j), none⟩ = some v ∧ v.oneCell' = true ∧ Rep W (fun b => b < W.heap.size) v x := fun i r j x hi hj => by
        obtain ⟨y, hy, rfl⟩ := row i r hi
        obtain ⟨⟨c, m1, m2⟩, _⟩ := hl2 i y hy
        have hjc : j < c.length := by rw [m2.1]; exact (List.getElem?_eq_some_iff.1 hj).1
        have w1 := cell i y j _ hy ⟨c, m1, List.getElem?_eq_getElem hjc⟩
        rw [hadd] at w1
        obtain ⟨q1, q2, _⟩ := m2.2 j _ x (List.getElem?_eq_getElem hjc) hj
        exact ⟨_, w1, q2, q1⟩
      have fin := Rep.sl (w := W) (ok := fun b => b < W.heap.size) false (P.cellsOf e) b off cap (l.map f) (fun i j => (W.cell? ⟨b, off + (i * P.cellsOf e + j), none⟩).getD undef) hblk (by omega)
        (fun i r hr => by obtain ⟨y, _, rfl⟩ := row i r hr; exact hf y)
        (fun i r j x hi hj => by obtain ⟨v, v1, v2, _⟩ := val i r j x hi hj; rw [v1]; exact ⟨rfl, v2⟩)
        (fun i r j x hi hj => by obtain ⟨v, v1, _, v3⟩ := val i r j x hi hj; rw [v1]; exact v3)
      rw [hlen] at fin
      exact cellsR_one fin rfl (by intro z r h; cases h) (by intro c h; cases h)
section
variable {H : Type} {enc : TypeId × Value → H} {P : Program} {W : Go.World} {base b0 : Nat} {spare : Nat → Bool} {held : Bool} {t : TypeId} {v : Value} {D : DataW H} {ps : List MemPlace} {r : Reach}
theorem arg_slice {β : Type} {g : β → Row} {e : TypeId} {z : Nat} {Q : List β → Prop} (hu : P.underlying t = some (.slice e)) (hv : Value.okWide P W r b0 t v) (ht : DataW.Trod enc P W base spare held t v D ps) (h : OpnA P (fun l : List β => [.sl false z (l.map g)]) t Q) :
    ∃ l, OwnA W (fun b => b < W.heap.size) (fun _ => False) v (.sl false z (l.map g)) ∧ Q l := by
  obtain ⟨a, n, c, rfl⟩ := okWide_slice hu hv
  obtain ⟨fuel, hf⟩ := ht
  obtain ⟨l, h1, h2⟩ := h H enc W base spare held fuel _ _ hf
  obtain ⟨a1, _, a3, a4⟩ := h1.2 0 _ _ rfl rfl
  exact ⟨l, .rd _ _ _ a3 a4 a1, h2⟩
end
theorem does_calls {P : Program} {f : FuncId} {fn : Func} {c : Code} {avs : List AV} {u : Value} (h : Does P f avs (.sc u, [])) (hf : P.funcs[f]? = some fn) (hb : fn.body = some c) (hn : (fn.name == "runtime.NumGoroutine") = false) {W : Go.World} {args : List Value}
    (hg : NG ≤ W.heap.size) (hw : GP W) (hl : args.length = avs.length) (ha : ∀ (i : Nat) (v : Value) (x : AV), args[i]? = some v → avs[i]? = some x → OwnA W (fun b => b < W.heap.size) (fun _ => False) v x) :
    Calls P f args.toArray W fun e W' => e = .returned u ∧ Below W.heap.size W W' := by
  have h1 : fn.name ≠ "runtime.NumGoroutine" := by simpa using hn
  rcases h.m W (fun b => b < W.heap.size) (fun _ _ => False) args ⟨hl, ha, fun _ _ _ h => h.elim, fun _ _ h => h.elim, fun _ h => h, fun b hb => Nat.lt_of_lt_of_le hb hg, hw⟩ with ⟨_, hc⟩ | ⟨v, w', H, hr, _⟩
  · refine hc.mono fun e W' he => ?_
    cases e with
    | returned v =>
      obtain ⟨H, hp⟩ := he
      have hv := hp.res
      have : v = u := by
        have := own_rep (show Own _ _ _ v (.sc u) from hv) (by intro z r h; cases h) (by intro c h; cases h)
        cases this; rfl
      exact ⟨by rw [this], ⟨hp.fr.os, hp.fr.tape, hp.fr.output, hp.fr.size, fun k hk => hp.fr.block k hk (by rintro ⟨_, h⟩; exact h)⟩⟩
    | _ => exact he.elim
  · simp [callFunc, hf, h1, hb] at hr
end Go.Proofs.YtkkmgjhfjhcdmaaGreatDoor.Mx

namespace Go.Proofs.YtkkmgjhfjhcdmaaGreatDoor.Mx
open Go Go.RowKit
structure Lst where
  sz : Int
  S : List Str
  deriving DecidableEq
@[push_cast] def lstC (o : Bool) (x : Lst) : Row := [.sc (.int .i64 x.sz), .sl o 1 (x.S.map strR)]
@[push_cast] theorem own_Lst (l : List Lst) : (l.map (lstC true)).all (fun row => row.all own2) = true := by simp [lstC, own2, flat_String]
@[push_cast] theorem rd_Lst (o : Bool) (l : List Lst) : rdR (l.map (lstC o)) = l.map (lstC false) := by simp [rdR, lstC, rdC]
end Go.Proofs.YtkkmgjhfjhcdmaaGreatDoor.Mx

namespace Go.Proofs.YtkkmgjhfjhcdmaaGreatDoor.Mx
open Go Go.RowKit
def aft (p : Option Str) (s : Str) : Bool := match p with | none => true | some q => lts q s
def ascF (w : Int) : Option Str → List Str → Bool
  | _, [] => true
  | p, s :: r => decide ((s.size : Int) = w) && aft p s && ascF w (some s) r
def itF (w : Int) : Option Str → List Item → Bool
  | _, [] => true
  | p, x :: r => inB x.t.size 1 7000 && inB x.u 0 1000000 && aft p (sumS x.t w) && itF w (some (sumS x.t w)) r
def bytes : List Item → Int
  | [] => 0
  | x :: r => x.t.size + bytes r
def validSt (s : Store) : Bool := inB s.w 1 8 && inB s.r 0 60000 && decide (s.I.length ≤ 1000) && decide (s.P.length ≤ 10) && ascF s.w none s.P && itF s.w none s.I && decide (bytes s.I ≤ s.r)
theorem bytes_app (a b : List Item) : bytes (a ++ b) = bytes a + bytes b := by
  induction a with
  | nil => simp [bytes]
  | cons x r ih => rw [List.cons_append, bytes, bytes, ih]; omega
theorem bytes_nn (l : List Item) : 0 ≤ bytes l := by
  induction l with
  | nil => simp [bytes]
  | cons x r ih => rw [bytes]; omega
theorem bytes_le {l : List Item} (h : okL okItem l) : bytes l ≤ l.length * 2097152 := by
  replace h := h.2
  induction l with
  | nil => simp [bytes]
  | cons x r ih =>
    have h1 := h x (List.mem_cons_self ..)
    have := ih fun a ha => h a (List.mem_cons_of_mem _ ha)
    unfold okItem okStr at h1
    rw [bytes, List.length_cons]
    omega
def emS : Store := ⟨0, 0, [], []⟩
def inL (l : List Str) (s : Str) : Bool := l.any fun y => decide (y = s)
theorem inL_iff (l : List Str) (s : Str) : inL l s = true ↔ s ∈ l := by simp [inL]
def rk : List Str → Str → Nat
  | [], _ => 0
  | y :: r, s => bif lts y s then rk r s + 1 else 0
def hasS (l : List Str) (s : Str) : Bool := decide (l[rk l s]? = some s)
def addS (l : List Str) (s : Str) : List Str := bif hasS l s then l else l.take (rk l s) ++ s :: l.drop (rk l s)
def pinS (s : Store) (n : Str) : Store × Int :=
  if (validSt s && decide ((n.size : Int) = s.w)) = false then (emS, 1)
  else if hasS s.P n = true then (s, 0)
  else if s.P.length = 10 then (emS, 2)
  else ({ s with P := addS s.P n }, 0)
theorem rk_le : ∀ (l : List Str) (s : Str), rk l s ≤ l.length
  | [], _ => Nat.le_refl _
  | y :: r, s => by
    have := rk_le r s
    rw [rk, List.length_cons]
    cases lts y s <;> simp only [cond_true, cond_false] <;> omega
theorem rk_step {s x : Str} : ∀ {l : List Str} {i : Nat}, i ≤ rk l s → l[i]? = some x → lts x s = true → i + 1 ≤ rk l s
  | [], i, _, hx, _ => by simp at hx
  | a :: r, 0, hi, hx, h => by
    simp only [List.getElem?_cons_zero, Option.some.injEq] at hx
    subst hx
    rw [rk, h, cond_true]; omega
  | a :: r, i + 1, hi, hx, h => by
    rw [rk] at hi ⊢
    cases ha : lts a s with
    | true =>
      rw [ha, cond_true] at hi
      have := rk_step (l := r) (i := i) (by omega) (by simpa using hx) h
      rw [cond_true]; omega
    | false => rw [ha, cond_false] at hi; omega
theorem rk_stop {l : List Str} {s x : Str} (hx : l[rk l s]? = some x) : lts x s = false := by
  cases h : lts x s with
  | false => rfl
  | true => have := rk_step (Nat.le_refl _) hx h; omega
theorem rk_all {s : Str} : ∀ {l : List Str} {i : Nat}, i < rk l s → ∃ x, l[i]? = some x ∧ lts x s = true
  | [], i, h => by simp [rk] at h
  | a :: r, i, h => by
    rw [rk] at h
    cases ha : lts a s with
    | true =>
      rw [ha, cond_true] at h
      cases i with
      | zero => exact ⟨a, rfl, ha⟩
      | succ i => exact rk_all (l := r) (i := i) (by omega)
    | false => rw [ha, cond_false] at h; omega
end Go.Proofs.YtkkmgjhfjhcdmaaGreatDoor.Mx

namespace Go.Proofs.YtkkmgjhfjhcdmaaGreatDoor.Mx
open Go Go.RowKit
def stB (l : List UInt8) : Str := ⟨l.toArray⟩
def sizB : List UInt8 := [115, 105, 122, 101, 32]
def lineB (x : Str) : List UInt8 := Lib.Hx.encode (bt x) ++ [10]
def formB (l : Lst) : List UInt8 := sizB ++ Lib.decDigits l.sz.toNat ++ [10] ++ l.S.flatMap lineB
def okLs (l : Lst) (w : Int) : Bool := inB w 1 8 && inB l.sz 0 3000 && decide (l.S.length ≤ 375) && l.S.all fun s => decide ((s.size : Int) = w)
def formL (l : Lst) (w : Int) : Str := if okLs l w = true then stB (formB l) else em
theorem bt_stB (l : List UInt8) : bt (stB l) = l := by simp [bt, stB]
theorem stB_bt (s : Str) : stB (bt s) = s := by simp [bt, stB]
theorem stB_size (l : List UInt8) : (stB l).size = l.length := by simp [stB, ByteArray.size]
theorem stB_app (a b : List UInt8) : stB a ++ stB b = stB (a ++ b) := by
  unfold stB
  apply ByteArray.ext
  simp
theorem app_stB (s : Str) (b : List UInt8) : s ++ stB b = stB (bt s ++ b) := by rw [← stB_app, stB_bt]
theorem bytesOf_byte (l : List UInt8) : bytesOf (l.map byteRow) = some l := by
  induction l with
  | nil => rfl
  | cons x r ih =>
    rw [List.map_cons]
    unfold bytesOf
    rw [show byteOf (byteRow x) = some x by simp [byteOf, byteRow]]
    simp only []
    rw [ih]
theorem flat_byte (l : List UInt8) : flatR (l.map byteRow) = true := by simp [flatR, byteRow, isSc]
theorem rd_byte (l : List UInt8) : rdR (l.map byteRow) = l.map byteRow := by simp [rdR, byteRow, rdC]
theorem own_byte (l : List UInt8) : (l.map byteRow).all (fun row => row.all own2) = true := by simp [byteRow, own2]
attribute [push_cast] bytesOf_byte flat_byte rd_byte own_byte
theorem lineB_len (x : Str) : (lineB x).length = 2 * x.size + 1 := by
  unfold lineB
  rw [List.length_append, Lib.Hx.encode_length, bt_len]; rfl
theorem lines_len {w : Int} : ∀ {S : List Str}, (∀ s ∈ S, (s.size : Int) = w) → w ≤ 8 → (S.flatMap lineB).length ≤ 17 * S.length
  | [], _, _ => Nat.zero_le _
  | x :: r, h, hw => by
    have := lines_len (S := r) (fun s hs => h s (by simp [hs])) hw
    have h2 := h x (by simp)
    rw [List.flatMap_cons, List.length_append, lineB_len, List.length_cons]
    omega
theorem okLs_up {l : Lst} {w : Int} (h : okLs l w = true) : 1 ≤ w ∧ w ≤ 8 ∧ 0 ≤ l.sz ∧ l.sz ≤ 3000 ∧ l.S.length ≤ 375 ∧ ∀ s ∈ l.S, (s.size : Int) = w := by
  unfold okLs at h
  simp only [Bool.and_eq_true, decide_eq_true_eq, inB, List.all_eq_true] at h
  exact ⟨h.1.1.1.1, h.1.1.1.2, h.1.1.2.1, h.1.1.2.2, h.1.2, h.2⟩
end Go.Proofs.YtkkmgjhfjhcdmaaGreatDoor.Mx

namespace Go.Proofs.YtkkmgjhfjhcdmaaGreatDoor.Mx
open Go Go.RowKit Go.Proofs
def T0 : Ty
  | 3 => some { kind := .int .i64, size := 1, bytes := 8, zero := [.int .i64 0], cz := [] }
  | 4 => some { kind := .bool, size := 1, bytes := 1, zero := [.bool false], cz := [] }
  | 5 => some { kind := .int .u8, size := 1, bytes := 1, zero := [.int .u8 0], cz := [] }
  | 9 => some { kind := .str, size := 1, bytes := 16, zero := [.string ⟨#[]⟩], cz := [] }
  | 22 => some { kind := .slice 5, size := 1, bytes := 24, zero := [.slice none 0 0], cz := [some 1] }
  | 23 => some { kind := .slice 37, size := 1, bytes := 24, zero := [.slice none 0 0], cz := [some 2] }
  | 24 => some { kind := .slice 9, size := 1, bytes := 24, zero := [.slice none 0 0], cz := [some 1] }
  | 26 => some { kind := .struct [(0, 3), (1, 3), (2, 23), (3, 24)], size := 4, bytes := 64, zero := [.int .i64 0, .int .i64 0, .slice none 0 0, .slice none 0 0], cz := [none, none, some 2, some 1] }
  | 37 => some { kind := .struct [(0, 9), (1, 3)], size := 2, bytes := 24, zero := [.string ⟨#[]⟩, .int .i64 0], cz := [], cmp := true }
  | 44 => some { kind := .slice 177, size := 1, bytes := 24, zero := [.slice none 0 0], cz := [some 2] }
  | 46 => some { kind := .struct [(0, 3), (1, 3), (2, 44), (3, 24)], size := 4, bytes := 64, zero := [.int .i64 0, .int .i64 0, .slice none 0 0, .slice none 0 0], cz := [none, none, some 2, some 1] }
  | 47 => some { kind := .slice 143, size := 1, bytes := 24, zero := [.slice none 0 0], cz := [some 5] }
  | 49 => some { kind := .struct [(0, 9), (1, 3), (2, 4), (3, 46), (7, 47)], size := 8, bytes := 120, zero := [.string ⟨#[]⟩, .int .i64 0, .bool false, .int .i64 0, .int .i64 0, .slice none 0 0, .slice none 0 0, .slice none 0 0], cz := [none, none, none, none, none, some 2, some 1, some 5] }
  | 51 => some { kind := .slice 77, size := 1, bytes := 24, zero := [.slice none 0 0], cz := [some 5] }
  | 53 => some { kind := .struct [(0, 9), (1, 3), (2, 4), (3, 26), (7, 51)], size := 8, bytes := 120, zero := [.string ⟨#[]⟩, .int .i64 0, .bool false, .int .i64 0, .int .i64 0, .slice none 0 0, .slice none 0 0, .slice none 0 0], cz := [none, none, none, none, none, some 2, some 1, some 5] }
  | 54 => some { kind := .slice 70, size := 1, bytes := 24, zero := [.slice none 0 0], cz := [some 5] }
  | 67 => some { kind := .struct [(0, 3), (1, 3), (2, 9), (3, 4), (4, 9)], size := 5, bytes := 56, zero := [.int .i64 0, .int .i64 0, .string ⟨#[]⟩, .bool false, .string ⟨#[]⟩], cz := [], cmp := true }
  | 70 => some { kind := .struct [(0, 3), (1, 3), (2, 9), (3, 4), (4, 9)], size := 5, bytes := 56, zero := [.int .i64 0, .int .i64 0, .string ⟨#[]⟩, .bool false, .string ⟨#[]⟩], cz := [], cmp := true }
  | 77 => some { kind := .struct [(0, 3), (1, 3), (2, 3), (3, 9), (4, 24)], size := 5, bytes := 64, zero := [.int .i64 0, .int .i64 0, .int .i64 0, .string ⟨#[]⟩, .slice none 0 0], cz := [none, none, none, none, some 1] }
  | 91 => some { kind := .map 9 4, size := 1, bytes := 8, zero := [.map none], cz := [] }
  | 96 => some { kind := .struct [(0, 3), (1, 24)], size := 2, bytes := 32, zero := [.int .i64 0, .slice none 0 0], cz := [none, some 1] }
  | 103 => some { kind := .int .u64, size := 1, bytes := 8, zero := [.int .u64 0], cz := [] }
  | 108 => some { kind := .slice 4, size := 1, bytes := 24, zero := [.slice none 0 0], cz := [some 1] }
  | 123 => some { kind := .slice 26, size := 1, bytes := 24, zero := [.slice none 0 0], cz := [some 4] }
  | 125 => some { kind := .struct [(0, 53), (8, 108), (9, 123), (10, 54), (11, 3)], size := 12, bytes := 200, zero := [.string ⟨#[]⟩, .int .i64 0, .bool false, .int .i64 0, .int .i64 0, .slice none 0 0, .slice none 0 0, .slice none 0 0, .slice none 0 0, .slice none 0 0, .slice none 0 0, .int .i64 0], cz := [none, none, none, none, none, some 2, some 1, some 5, some 1, some 4, some 5, none] }
  | 128 => some { kind := .slice 3, size := 1, bytes := 24, zero := [.slice none 0 0], cz := [some 1] }
  | 132 => some { kind := .struct [(0, 22), (1, 3)], size := 2, bytes := 32, zero := [.slice none 0 0, .int .i64 0], cz := [some 1, none] }
  | 143 => some { kind := .struct [(0, 3), (1, 3), (2, 3), (3, 9), (4, 24)], size := 5, bytes := 64, zero := [.int .i64 0, .int .i64 0, .int .i64 0, .string ⟨#[]⟩, .slice none 0 0], cz := [none, none, none, none, some 1] }
  | 156 => some { kind := .iface, size := 1, bytes := 16, zero := [.nilIface], cz := [] }
  | 170 => some { kind := .struct [(0, 3), (1, 3), (2, 3), (3, 70)], size := 8, bytes := 80, zero := [.int .i64 0, .int .i64 0, .int .i64 0, .int .i64 0, .int .i64 0, .string ⟨#[]⟩, .bool false, .string ⟨#[]⟩], cz := [] }
  | 177 => some { kind := .struct [(0, 9), (1, 3)], size := 2, bytes := 24, zero := [.string ⟨#[]⟩, .int .i64 0], cz := [], cmp := true }
  | _ => none
@[push_cast] theorem T0_3 : T0 3 = some { kind := .int .i64, size := 1, bytes := 8, zero := [.int .i64 0], cz := [] } := rfl
@[push_cast] theorem T0_4 : T0 4 = some { kind := .bool, size := 1, bytes := 1, zero := [.bool false], cz := [] } := rfl
@[push_cast] theorem T0_5 : T0 5 = some { kind := .int .u8, size := 1, bytes := 1, zero := [.int .u8 0], cz := [] } := rfl
@[push_cast] theorem T0_9 : T0 9 = some { kind := .str, size := 1, bytes := 16, zero := [.string ⟨#[]⟩], cz := [] } := rfl
@[push_cast] theorem T0_22 : T0 22 = some { kind := .slice 5, size := 1, bytes := 24, zero := [.slice none 0 0], cz := [some 1] } := rfl
@[push_cast] theorem T0_23 : T0 23 = some { kind := .slice 37, size := 1, bytes := 24, zero := [.slice none 0 0], cz := [some 2] } := rfl
@[push_cast] theorem T0_24 : T0 24 = some { kind := .slice 9, size := 1, bytes := 24, zero := [.slice none 0 0], cz := [some 1] } := rfl
@[push_cast] theorem T0_26 : T0 26 = some { kind := .struct [(0, 3), (1, 3), (2, 23), (3, 24)], size := 4, bytes := 64, zero := [.int .i64 0, .int .i64 0, .slice none 0 0, .slice none 0 0], cz := [none, none, some 2, some 1] } := rfl
@[push_cast] theorem T0_37 : T0 37 = some { kind := .struct [(0, 9), (1, 3)], size := 2, bytes := 24, zero := [.string ⟨#[]⟩, .int .i64 0], cz := [], cmp := true } := rfl
@[push_cast] theorem T0_44 : T0 44 = some { kind := .slice 177, size := 1, bytes := 24, zero := [.slice none 0 0], cz := [some 2] } := rfl
@[push_cast] theorem T0_46 : T0 46 = some { kind := .struct [(0, 3), (1, 3), (2, 44), (3, 24)], size := 4, bytes := 64, zero := [.int .i64 0, .int .i64 0, .slice none 0 0, .slice none 0 0], cz := [none, none, some 2, some 1] } := rfl
@[push_cast] theorem T0_47 : T0 47 = some { kind := .slice 143, size := 1, bytes := 24, zero := [.slice none 0 0], cz := [some 5] } := rfl
@[push_cast] theorem T0_49 : T0 49 = some { kind := .struct [(0, 9), (1, 3), (2, 4), (3, 46), (7, 47)], size := 8, bytes := 120, zero := [.string ⟨#[]⟩, .int .i64 0, .bool false, .int .i64 0, .int .i64 0, .slice none 0 0, .slice none 0 0, .slice none 0 0], cz := [none, none, none, none, none, some 2, some 1, some 5] } := rfl
@[push_cast] theorem T0_51 : T0 51 = some { kind := .slice 77, size := 1, bytes := 24, zero := [.slice none 0 0], cz := [some 5] } := rfl
@[push_cast] theorem T0_53 : T0 53 = some { kind := .struct [(0, 9), (1, 3), (2, 4), (3, 26), (7, 51)], size := 8, bytes := 120, zero := [.string ⟨#[]⟩, .int .i64 0, .bool false, .int .i64 0, .int .i64 0, .slice none 0 0, .slice none 0 0, .slice none 0 0], cz := [none, none, none, none, none, some 2, some 1, some 5] } := rfl
@[push_cast] theorem T0_54 : T0 54 = some { kind := .slice 70, size := 1, bytes := 24, zero := [.slice none 0 0], cz := [some 5] } := rfl
@[push_cast] theorem T0_67 : T0 67 = some { kind := .struct [(0, 3), (1, 3), (2, 9), (3, 4), (4, 9)], size := 5, bytes := 56, zero := [.int .i64 0, .int .i64 0, .string ⟨#[]⟩, .bool false, .string ⟨#[]⟩], cz := [], cmp := true } := rfl
@[push_cast] theorem T0_70 : T0 70 = some { kind := .struct [(0, 3), (1, 3), (2, 9), (3, 4), (4, 9)], size := 5, bytes := 56, zero := [.int .i64 0, .int .i64 0, .string ⟨#[]⟩, .bool false, .string ⟨#[]⟩], cz := [], cmp := true } := rfl
@[push_cast] theorem T0_77 : T0 77 = some { kind := .struct [(0, 3), (1, 3), (2, 3), (3, 9), (4, 24)], size := 5, bytes := 64, zero := [.int .i64 0, .int .i64 0, .int .i64 0, .string ⟨#[]⟩, .slice none 0 0], cz := [none, none, none, none, some 1] } := rfl
@[push_cast] theorem T0_91 : T0 91 = some { kind := .map 9 4, size := 1, bytes := 8, zero := [.map none], cz := [] } := rfl
@[push_cast] theorem T0_96 : T0 96 = some { kind := .struct [(0, 3), (1, 24)], size := 2, bytes := 32, zero := [.int .i64 0, .slice none 0 0], cz := [none, some 1] } := rfl
@[push_cast] theorem T0_103 : T0 103 = some { kind := .int .u64, size := 1, bytes := 8, zero := [.int .u64 0], cz := [] } := rfl
@[push_cast] theorem T0_108 : T0 108 = some { kind := .slice 4, size := 1, bytes := 24, zero := [.slice none 0 0], cz := [some 1] } := rfl
@[push_cast] theorem T0_123 : T0 123 = some { kind := .slice 26, size := 1, bytes := 24, zero := [.slice none 0 0], cz := [some 4] } := rfl
@[push_cast] theorem T0_125 : T0 125 = some { kind := .struct [(0, 53), (8, 108), (9, 123), (10, 54), (11, 3)], size := 12, bytes := 200, zero := [.string ⟨#[]⟩, .int .i64 0, .bool false, .int .i64 0, .int .i64 0, .slice none 0 0, .slice none 0 0, .slice none 0 0, .slice none 0 0, .slice none 0 0, .slice none 0 0, .int .i64 0], cz := [none, none, none, none, none, some 2, some 1, some 5, some 1, some 4, some 5, none] } := rfl
@[push_cast] theorem T0_128 : T0 128 = some { kind := .slice 3, size := 1, bytes := 24, zero := [.slice none 0 0], cz := [some 1] } := rfl
@[push_cast] theorem T0_132 : T0 132 = some { kind := .struct [(0, 22), (1, 3)], size := 2, bytes := 32, zero := [.slice none 0 0, .int .i64 0], cz := [some 1, none] } := rfl
@[push_cast] theorem T0_143 : T0 143 = some { kind := .struct [(0, 3), (1, 3), (2, 3), (3, 9), (4, 24)], size := 5, bytes := 64, zero := [.int .i64 0, .int .i64 0, .int .i64 0, .string ⟨#[]⟩, .slice none 0 0], cz := [none, none, none, none, some 1] } := rfl
@[push_cast] theorem T0_156 : T0 156 = some { kind := .iface, size := 1, bytes := 16, zero := [.nilIface], cz := [] } := rfl
@[push_cast] theorem T0_170 : T0 170 = some { kind := .struct [(0, 3), (1, 3), (2, 3), (3, 70)], size := 8, bytes := 80, zero := [.int .i64 0, .int .i64 0, .int .i64 0, .int .i64 0, .int .i64 0, .string ⟨#[]⟩, .bool false, .string ⟨#[]⟩], cz := [] } := rfl
@[push_cast] theorem T0_177 : T0 177 = some { kind := .struct [(0, 9), (1, 3)], size := 2, bytes := 24, zero := [.string ⟨#[]⟩, .int .i64 0], cz := [], cmp := true } := rfl
theorem tOk : TOk Tryz.prog T0 := by
  intro t ti h
  unfold T0 at h
  split at h <;> cases h
  · exact tyOk_one Tryz.type3 rfl rfl rfl rfl rfl (by decide) rfl Tryz.underlying3 rfl rfl rfl rfl
  · exact tyOk_one Tryz.type4 rfl rfl rfl rfl rfl (by decide) rfl Tryz.underlying4 rfl rfl rfl rfl
  · exact tyOk_one Tryz.type5 rfl rfl rfl rfl rfl (by decide) rfl Tryz.underlying5 rfl rfl rfl rfl
  · exact tyOk_one Tryz.type9 rfl rfl rfl rfl rfl (by decide) rfl Tryz.underlying9 rfl rfl rfl rfl
  · exact tyOk_sl Tryz.type22 rfl rfl rfl rfl rfl (by decide) rfl Tryz.underlying22 rfl rfl rfl rfl
  · exact tyOk_sl Tryz.type23 rfl rfl rfl rfl rfl (by decide) rfl Tryz.underlying23 rfl rfl rfl rfl
  · exact tyOk_sl Tryz.type24 rfl rfl rfl rfl rfl (by decide) rfl Tryz.underlying24 rfl rfl rfl rfl
  · exact tyOk_str (info_of Tryz.type26) rfl rfl rfl rfl rfl rfl ⟨_, Tryz.underlying26, rfl⟩ rfl (flds_ok (by kernel_rfl)) rfl rfl rfl
  · exact tyOk_strC (info_of Tryz.type37) rfl rfl rfl rfl rfl rfl ⟨_, Tryz.underlying37, rfl⟩ rfl (flds_ok (by kernel_rfl)) rfl rfl (by kernel_rfl) (by kernel_rfl) (nm_of Tryz.underlying37 (by decide))
  · exact tyOk_sl Tryz.type44 rfl rfl rfl rfl rfl (by decide) rfl Tryz.underlying44 rfl rfl rfl rfl
  · exact tyOk_str (info_of Tryz.type46) rfl rfl rfl rfl rfl rfl ⟨_, Tryz.underlying46, rfl⟩ rfl (flds_ok (by kernel_rfl)) rfl rfl rfl
  · exact tyOk_sl Tryz.type47 rfl rfl rfl rfl rfl (by decide) rfl Tryz.underlying47 rfl rfl rfl rfl
  · exact tyOk_str (info_of Tryz.type49) rfl rfl rfl rfl rfl rfl ⟨_, Tryz.underlying49, rfl⟩ rfl (flds_ok (by kernel_rfl)) rfl rfl rfl
  · exact tyOk_sl Tryz.type51 rfl rfl rfl rfl rfl (by decide) rfl Tryz.underlying51 rfl rfl rfl rfl
  · exact tyOk_str (info_of Tryz.type53) rfl rfl rfl rfl rfl rfl ⟨_, Tryz.underlying53, rfl⟩ rfl (flds_ok (by kernel_rfl)) rfl rfl rfl
  · exact tyOk_sl Tryz.type54 rfl rfl rfl rfl rfl (by decide) rfl Tryz.underlying54 rfl rfl rfl rfl
  · exact tyOk_strC (info_of Tryz.type67) rfl rfl rfl rfl rfl rfl ⟨_, Tryz.underlying67, rfl⟩ rfl (flds_ok (by kernel_rfl)) rfl rfl (by kernel_rfl) (by kernel_rfl) (nm_of Tryz.underlying67 (by decide))
  · exact tyOk_strC (info_of Tryz.type70) rfl rfl rfl rfl rfl rfl ⟨_, Tryz.underlying70, rfl⟩ rfl (flds_ok (by kernel_rfl)) rfl rfl (by kernel_rfl) (by kernel_rfl) (nm_of Tryz.underlying70 (by decide))
  · exact tyOk_str (info_of Tryz.type77) rfl rfl rfl rfl rfl rfl ⟨_, Tryz.underlying77, rfl⟩ rfl (flds_ok (by kernel_rfl)) rfl rfl rfl
  · exact tyOk_one Tryz.type91 rfl rfl rfl rfl rfl (by decide) rfl Tryz.underlying91 rfl rfl rfl rfl
  · exact tyOk_str (info_of Tryz.type96) rfl rfl rfl rfl rfl rfl ⟨_, Tryz.underlying96, rfl⟩ rfl (flds_ok (by kernel_rfl)) rfl rfl rfl
  · exact tyOk_one Tryz.type103 rfl rfl rfl rfl rfl (by decide) rfl Tryz.underlying103 rfl rfl rfl rfl
  · exact tyOk_sl Tryz.type108 rfl rfl rfl rfl rfl (by decide) rfl Tryz.underlying108 rfl rfl rfl rfl
  · exact tyOk_sl Tryz.type123 rfl rfl rfl rfl rfl (by decide) rfl Tryz.underlying123 rfl rfl rfl rfl
  · exact tyOk_str (info_of Tryz.type125) rfl rfl rfl rfl rfl rfl ⟨_, Tryz.underlying125, rfl⟩ rfl (flds_ok (by kernel_rfl)) rfl rfl rfl
  · exact tyOk_sl Tryz.type128 rfl rfl rfl rfl rfl (by decide) rfl Tryz.underlying128 rfl rfl rfl rfl
  · exact tyOk_str (info_of Tryz.type132) rfl rfl rfl rfl rfl rfl ⟨_, Tryz.underlying132, rfl⟩ rfl (flds_ok (by kernel_rfl)) rfl rfl rfl
  · exact tyOk_str (info_of Tryz.type143) rfl rfl rfl rfl rfl rfl ⟨_, Tryz.underlying143, rfl⟩ rfl (flds_ok (by kernel_rfl)) rfl rfl rfl
  · exact tyOk_one Tryz.type156 rfl rfl rfl rfl rfl (by decide) rfl ⟨_, Tryz.underlying156⟩ rfl rfl rfl rfl
  · exact tyOk_str (info_of Tryz.type170) rfl rfl rfl rfl rfl rfl ⟨_, Tryz.underlying170, rfl⟩ rfl (flds_ok (by kernel_rfl)) rfl rfl rfl
  · exact tyOk_strC (info_of Tryz.type177) rfl rfl rfl rfl rfl rfl ⟨_, Tryz.underlying177, rfl⟩ rfl (flds_ok (by kernel_rfl)) rfl rfl (by kernel_rfl) (by kernel_rfl) (nm_of Tryz.underlying177 (by decide))
end Go.Proofs.YtkkmgjhfjhcdmaaGreatDoor.Mx

namespace Go.Proofs.YtkkmgjhfjhcdmaaGreatDoor.Mx
open Go Go.RowKit Go.Proofs Go.Sort
theorem rep_bytes {w : Go.World} {ok : Nat → Prop} {v : Value} {o : Bool} {l : List UInt8} (h : Rep w ok v (.sl o 1 (l.map byteRow))) (hne : l ≠ []) :
    ∃ b off cap, v = .slice (some ⟨b, off, none⟩) l.length cap ∧ l.length ≤ cap ∧ ok b ∧ ∀ i (h : i < l.length), w.cell? ⟨b, off + i, none⟩ = some (.int .u8 ((l[i]'h).toNat : Int)) := by
  generalize hr : l.map byteRow = rows at h
  cases h with
  | nil => exact (hne (by simpa using hr)).elim
  | emp => exact (hne (by simpa using hr)).elim
  | sl _ _ b off cap _ vs h1 h2 h3 h4 h5 =>
    subst hr
    refine ⟨b, off, cap, by rw [List.length_map], by simpa using h2, h1, fun i hi => ?_⟩
    have hi' : (l.map byteRow)[i]? = some [.sc (.int .u8 (l[i].toNat : Int))] := by rw [List.getElem?_map, List.getElem?_eq_getElem hi]; rfl
    have a := (h4 i _ 0 _ hi' rfl).1
    have b := h5 i _ 0 _ hi' rfl
    generalize vs i 0 = z at a b
    have b : z = .int .u8 (l[i].toNat : Int) := by cases b; rfl
    rw [b] at a
    simpa using a
theorem args1' {w : Go.World} {ok : Nat → Prop} {G : Fp} {args : List Value} {x : AV} (h : ArgsRep w ok G args [x]) : ∃ u, args = [u] ∧ OwnA w ok (G 0) u x := by
  match args, h.len with
  | [u], _ => exact ⟨u, rfl, h.own 0 u x rfl rfl⟩
theorem below_grow (w : Go.World) (k : Nat) (os) : Below w.heap.size w (grow (w.drewN k) os) :=
  ⟨rfl, rfl, rfl, by simp [grow], fun n hn => by simp only [grow]; rw [Array.getElem?_append_left (by simpa using hn)]; rfl⟩
theorem itoa (n : Nat) (hn : n < 4611686018427387904) : Does Tryz.prog 115 [.sc (.int .i64 n)] (.sc (.string (stB (Lib.decDigits n))), []) := by
  refine does_pure Tryz.func115 rfl rfl rfl fun w ok G args hA => ?_
  obtain ⟨u, rfl, h0⟩ := args1' hA
  obtain rfl := rep_int (own_rep h0 (by intro z r h; cases h) (by intro cs h; cases h))
  have ht : Lib.TabIs Tryz.prog w "internal/strconv.uint64pow10" .u64 Lib.pow10Tab := by
    unfold Lib.TabIs World.var?
    rw [Tryz.laysM171.m17]
    have hg : GP w := hA.gw
    unfold GP at hg
    first
    | (obtain ⟨e, fr, h3⟩ := hg
       show (match w.heap[3]? with | some (.cells cs _ _) => some cs | _ => none) = _
       rw [h3])
    | (obtain ⟨⟨e, fr, h3⟩, _⟩ := hg
       show (match w.heap[3]? with | some (.cells cs _ _) => some cs | _ => none) = _
       rw [h3])
  refine (Any.strconv_Itoa Tryz.laysM171 (n : Int) (by omega) (by omega) w ht).mono fun e w' hh => ?_
  obtain ⟨rfl, k, os, rfl⟩ := hh
  refine ⟨?_, below_grow w k os⟩
  have : Lib.itoa (n : Int) = Lib.decDigits n := by unfold Lib.itoa; rw [if_neg (by omega)]; simp
  rw [this]; rfl
theorem hexEnc (l : List UInt8) (hne : l ≠ []) (hl : l.length ≤ 100000) : Does Tryz.prog 116 [.sl false 1 (l.map byteRow)] (.sc (.string (stB (Lib.Hx.encode l))), []) := by
  refine does_pure Tryz.func116 rfl rfl rfl fun w ok G args hA => ?_
  obtain ⟨u, rfl, h0⟩ := args1' hA
  obtain ⟨b, off, cap, rfl, hc, hb, hcell⟩ := rep_bytes (own_rep h0 (by intro z r h; cases h) (by intro cs h; cases h)) hne
  exact Any.hex_EncodeToString_bytes Tryz.hexE b off cap l w hcell (hA.inn b hb) (by omega)
end Go.Proofs.YtkkmgjhfjhcdmaaGreatDoor.Mx

namespace Go.Proofs.YtkkmgjhfjhcdmaaGreatDoor.Mx
open Go Go.RowKit
def cutF (c : UInt8) : List (List UInt8) → List UInt8 → List UInt8 → List (List UInt8)
  | acc, cur, [] => acc ++ [cur]
  | acc, cur, x :: r => if x = c then cutF c (acc ++ [cur]) [] r else cutF c acc (cur ++ [x]) r
def cutL (c : UInt8) (s : List UInt8) : List (List UInt8) := cutF c [] [] s
theorem cutF_acc (c : UInt8) : ∀ (s : List UInt8) (acc : List (List UInt8)) (cur : List UInt8), cutF c acc cur s = acc ++ cutF c [] cur s
  | [], acc, cur => by simp [cutF]
  | x :: r, acc, cur => by
    rw [cutF, cutF]
    split
    · rw [cutF_acc c r (acc ++ [cur]), cutF_acc c r ([] ++ [cur])]; simp
    · rw [cutF_acc c r acc]
theorem cutF_skip {c : UInt8} : ∀ {a : List UInt8}, c ∉ a → ∀ (s : List UInt8) (acc : List (List UInt8)) (cur : List UInt8), cutF c acc cur (a ++ s) = cutF c acc (cur ++ a) s
  | [], _, s, acc, cur => by simp
  | x :: r, h, s, acc, cur => by
    have hx : ¬ x = c := fun e => h (by simp [e])
    rw [List.cons_append, cutF, if_neg hx, cutF_skip (fun q => h (by simp [q]))]
    simp
theorem cutL_none {c : UInt8} {a : List UInt8} (h : c ∉ a) : cutL c a = [a] := by
  have := cutF_skip h [] [] []
  rw [List.append_nil] at this
  unfold cutL; rw [this]; simp [cutF]
theorem cutL_one {c : UInt8} {a : List UInt8} (h : c ∉ a) (s : List UInt8) : cutL c (a ++ c :: s) = a :: cutL c s := by
  unfold cutL
  rw [cutF_skip h, cutF, if_pos rfl, cutF_acc]; simp
theorem cutL_lines {c : UInt8} : ∀ {L : List (List UInt8)}, (∀ a ∈ L, c ∉ a) → cutL c (L.flatMap fun a => a ++ [c]) = L ++ [[]]
  | [], _ => by simp [cutL, cutF]
  | a :: r, h => by
    rw [List.flatMap_cons, List.append_assoc, List.singleton_append, cutL_one (h a (by simp)), cutL_lines fun b hb => h b (by simp [hb])]
    rfl
theorem cutF_ne (c : UInt8) : ∀ (s : List UInt8) (acc : List (List UInt8)) (cur : List UInt8), cutF c acc cur s ≠ []
  | [], acc, cur => by simp [cutF]
  | x :: r, acc, cur => by
    rw [cutF]
    split
    · exact cutF_ne c r _ _
    · exact cutF_ne c r _ _
theorem cutF_len (c : UInt8) : ∀ (s : List UInt8) (acc : List (List UInt8)) (cur : List UInt8), (cutF c acc cur s).length ≤ acc.length + 1 + s.length
  | [], acc, cur => by simp [cutF]
  | x :: r, acc, cur => by
    rw [cutF]
    split
    · have := cutF_len c r (acc ++ [cur]) []
      rw [List.length_append, List.length_cons, List.length_nil] at this
      rw [List.length_cons]; omega
    · have := cutF_len c r acc (cur ++ [x])
      rw [List.length_cons]; omega
theorem cutF_sz (c : UInt8) : ∀ (s : List UInt8) (acc : List (List UInt8)) (cur : List UInt8) (n : Nat), (∀ a ∈ acc, a.length ≤ n) → cur.length + s.length ≤ n → ∀ a ∈ cutF c acc cur s, a.length ≤ n
  | [], acc, cur, n, h, hc, a, ha => by
    rw [cutF, List.mem_append, List.mem_singleton] at ha
    rcases ha with ha | rfl
    · exact h a ha
    · simpa using hc
  | x :: r, acc, cur, n, h, hc, a, ha => by
    rw [cutF] at ha
    rw [List.length_cons] at hc
    split at ha
    · refine cutF_sz c r (acc ++ [cur]) [] n (fun b hb => ?_) (by simp; omega) a ha
      rcases List.mem_append.1 hb with hb | hb
      · exact h b hb
      · rw [List.mem_singleton.1 hb]; omega
    · exact cutF_sz c r acc (cur ++ [x]) n h (by rw [List.length_append, List.length_cons, List.length_nil]; omega) a ha
theorem split_cut (c : UInt8) : ∀ (n : Nat) (s : List UInt8), s.length ≤ n → Lib.splitK [c] 0 (Lib.count s [c]) s = cutL c s := by
  intro n
  induction n with
  | zero =>
    intro s hs
    have : s = [] := List.length_eq_zero_iff.1 (by omega)
    subst this
    have hi : Lib.index [] [c] = -1 := by simp [Lib.index]
    rw [Lib.count_miss hi]
    simp [Lib.splitK, cutL, cutF]
  | succ n ih =>
    intro s hs
    rcases Lib.index_spec s [c] with ⟨h1, h2⟩ | ⟨i, h1, h2, h3, h4⟩
    · rw [Lib.count_miss h1, Lib.splitK]
      have hn : c ∉ s := fun hc => by
        obtain ⟨j, hj⟩ := List.mem_iff_getElem?.1 hc
        have hjl := (List.getElem?_eq_some_iff.1 hj).1
        have := h2 j (by omega)
        rw [Lib.occAt_iff_take s [c] j (by simp; omega)] at this
        have hd : s.drop j = c :: s.drop (j + 1) := by
          rw [List.drop_eq_getElem_cons hjl]
          rw [List.getElem?_eq_getElem hjl] at hj
          rw [Option.some.inj hj]
        rw [hd] at this
        simp at this
      rw [cutL_none hn]
    · rw [Lib.count_hit (by simp) h1, Nat.add_comm, Lib.splitK]
      have hne : ¬ (Lib.index s [c] == -1) = true := by rw [h1]; simp
      rw [if_neg hne, h1]
      have ei : ((i : Nat) : Int).toNat = i := by omega
      rw [ei]
      have hci := Lib.occAt_head (t := []) rfl h3
      have hil := (List.getElem?_eq_some_iff.1 hci).1
      have hd : s.drop i = c :: s.drop (i + 1) := by
        rw [List.drop_eq_getElem_cons hil]
        rw [List.getElem?_eq_getElem hil] at hci
        rw [Option.some.inj hci]
      have hn : c ∉ s.take i := fun hc => by
        obtain ⟨j, hj⟩ := List.mem_iff_getElem?.1 hc
        have hjl := (List.getElem?_eq_some_iff.1 hj).1
        rw [List.length_take] at hjl
        rw [List.getElem?_take_of_lt (by omega)] at hj
        have := h4 j (by omega)
        rw [Lib.occAt_iff_take s [c] j (by simp; omega)] at this
        have hd : s.drop j = c :: s.drop (j + 1) := by
          rw [List.drop_eq_getElem_cons (by omega)]
          rw [List.getElem?_eq_getElem (by omega)] at hj
          rw [Option.some.inj hj]
        rw [hd] at this
        simp at this
      have hs2 : s = s.take i ++ c :: s.drop (i + 1) := by rw [← hd, List.take_append_drop]
      conv => rhs; rw [hs2]
      rw [cutL_one hn]
      simp only [List.length_cons, List.length_nil, Nat.add_zero]
      rw [ih (s.drop (i + 1)) (by rw [List.length_drop]; omega)]
end Go.Proofs.YtkkmgjhfjhcdmaaGreatDoor.Mx

namespace Go.Proofs.YtkkmgjhfjhcdmaaGreatDoor.Mx
open Go Go.RowKit
theorem dec_digit : ∀ (n : Nat), ∀ b ∈ Lib.decDigits n, 48 ≤ b.toNat ∧ b.toNat ≤ 57 := by
  intro n
  induction n using Nat.strongRecOn with
  | _ n ih =>
    intro b hb
    rw [Lib.decDigits] at hb
    split at hb
    · rw [List.mem_singleton.1 hb]
      rw [UInt8.toNat_ofNat']; omega
    · rcases List.mem_append.1 hb with hb | hb
      · exact ih (n / 10) (by omega) b hb
      · rw [List.mem_singleton.1 hb, UInt8.toNat_ofNat']; omega
theorem decFrom_app : ∀ (a b : List UInt8) (acc : Nat), Lib.decFrom acc (a ++ b) = (Lib.decFrom acc a).bind fun m => Lib.decFrom m b
  | [], b, acc => rfl
  | x :: r, b, acc => by
    rw [List.cons_append, Lib.decFrom, Lib.decFrom]
    cases Lib.digitVal x with
    | none => rfl
    | some d => exact decFrom_app r b _
theorem decFrom_dec : ∀ n : Nat, Lib.decFrom 0 (Lib.decDigits n) = some n := by
  intro n
  induction n using Nat.strongRecOn with
  | _ n ih =>
    have hv : ∀ d : Nat, d < 10 → Lib.digitVal (UInt8.ofNat (48 + d)) = some d := by
      intro d hd
      unfold Lib.digitVal
      have : (UInt8.ofNat (48 + d)).toNat = 48 + d := by rw [UInt8.toNat_ofNat']; omega
      rw [this, if_pos (by omega)]
      congr 1; omega
    rw [Lib.decDigits]
    split
    · rename_i h
      rw [Lib.decFrom, hv n h]
      simp [Lib.decFrom]
    · rename_i h
      rw [decFrom_app, ih (n / 10) (by omega), Option.bind_some, Lib.decFrom, hv (n % 10) (by omega)]
      simp only [Lib.decFrom]
      congr 1; omega
theorem dec_ne (n : Nat) : Lib.decDigits n ≠ [] := by
  rw [Lib.decDigits]
  split <;> simp
theorem dec_len4 {n : Nat} (h : n ≤ 9999) : (Lib.decDigits n).length ≤ 4 := by
  rw [Lib.decDigits]
  split
  · simp
  · rw [List.length_append, Lib.decDigits]
    split
    · simp
    · rw [List.length_append, Lib.decDigits]
      split
      · simp
      · rw [List.length_append, Lib.decDigits]
        split
        · simp
        · omega
theorem atoi_dec {n : Nat} : Lib.atoi (Lib.decDigits n) = some (n : Int) := by
  have h1 := decFrom_dec n
  cases hd : Lib.decDigits n with
  | nil => exact (dec_ne n hd).elim
  | cons b r =>
    have hb := dec_digit n b (by rw [hd]; simp)
    have n1 : (b == 45) = false := by
      cases e : b == 45 with
      | false => rfl
      | true => have := beq_iff_eq.1 e; subst this; simp at hb
    have n2 : (b == 43) = false := by
      cases e : b == 43 with
      | false => rfl
      | true => have := beq_iff_eq.1 e; subst this; simp at hb
    rw [hd] at h1
    unfold Lib.atoi
    simp only [n1, n2, Bool.false_eq_true, if_false]
    unfold Lib.decNat
    rw [h1]; rfl
def numB (s : List UInt8) : Int := if s.length < 1 ∨ 4 < s.length then -1 else match Lib.decFrom 0 s with
  | some m => if Lib.decDigits m = s then (m : Int) else -1
  | none => -1
theorem numB_dec {n : Nat} (h : n ≤ 9999) : numB (Lib.decDigits n) = n := by
  unfold numB
  have h1 := dec_ne n
  have h2 := dec_len4 h
  have h3 : 0 < (Lib.decDigits n).length := List.length_pos_iff.2 h1
  rw [if_neg (by omega), decFrom_dec]
  simp
def digI (b : UInt8) : Int := if 48 ≤ b.toNat ∧ b.toNat ≤ 57 then (b.toNat : Int) - 48 else (b.toNat : Int) - 97 + 10
def unhex : List UInt8 → List UInt8
  | a :: b :: r => UInt8.ofNat ((16 * digI a + digI b) % 256).toNat :: unhex r
  | _ => []
theorem digit_fin : ∀ d : _root_.Fin 16, digI (Lib.Hx.digit d.val) = (d.val : Int) ∧ 48 ≤ (Lib.Hx.digit d.val).toNat := by decide +kernel
theorem unhex_encode : ∀ l : List UInt8, unhex (Lib.Hx.encode l) = l
  | [] => rfl
  | b :: r => by
    have hb : b.toNat < 256 := b.toNat_lt
    rw [Lib.Hx.encode_cons, unhex, unhex_encode r]
    have h1 := (digit_fin ⟨b.toNat / 16, by omega⟩).1
    have h2 := (digit_fin ⟨b.toNat % 16, by omega⟩).1
    simp only at h1 h2
    rw [h1, h2]
    have : ((16 * ((b.toNat / 16 : Nat) : Int) + ((b.toNat % 16 : Nat) : Int)) % 256).toNat = b.toNat := by omega
    rw [this]; simp
theorem encode_ge : ∀ (l : List UInt8), ∀ c ∈ Lib.Hx.encode l, 48 ≤ c.toNat
  | [], c, h => by simp [Lib.Hx.encode] at h
  | b :: r, c, h => by
    have hb : b.toNat < 256 := b.toNat_lt
    rw [Lib.Hx.encode_cons] at h
    rcases List.mem_cons.1 h with rfl | h
    · exact (digit_fin ⟨b.toNat / 16, by omega⟩).2
    · rcases List.mem_cons.1 h with rfl | h
      · exact (digit_fin ⟨b.toNat % 16, by omega⟩).2
      · exact encode_ge r c h
def hexL (S : List Str) : List (List UInt8) := S.map fun x => Lib.Hx.encode (bt x)
theorem lines_hex (S : List Str) : S.flatMap lineB = (hexL S).flatMap fun a => a ++ [10] := by
  unfold hexL
  induction S with
  | nil => rfl
  | cons x r ih => rw [List.flatMap_cons, List.map_cons, List.flatMap_cons, ih]; rfl
theorem ten_hex {S : List Str} : ∀ a ∈ hexL S, (10 : UInt8) ∉ a := by
  intro a ha hc
  unfold hexL at ha
  obtain ⟨x, _, rfl⟩ := List.mem_map.1 ha
  have := encode_ge _ _ hc
  simp at this
theorem ten_head (n : Nat) : (10 : UInt8) ∉ sizB ++ Lib.decDigits n := by
  intro hc
  rcases List.mem_append.1 hc with hc | hc
  · revert hc; decide
  · have := dec_digit n 10 hc
    simp at this
theorem cut_form (l : Lst) : cutL 10 (formB l) = (sizB ++ Lib.decDigits l.sz.toNat) :: (hexL l.S ++ [[]]) := by
  unfold formB
  rw [List.append_assoc, List.singleton_append, cutL_one (ten_head _), lines_hex, cutL_lines ten_hex]
def parseL (s : Str) : Lst := ⟨numB (((cutL 10 (bt s)).getD 0 []).drop 5), (((cutL 10 (bt s)).drop 1).take ((cutL 10 (bt s)).length - 2)).map fun x => stB (unhex x)⟩
theorem parse_form {l : Lst} {w : Int} (h : okLs l w = true) : parseL (stB (formB l)) = l := by
  obtain ⟨_, _, s0, s3, _, _⟩ := okLs_up h
  unfold parseL
  rw [bt_stB, cut_form]
  have e1 : ((((sizB ++ Lib.decDigits l.sz.toNat) :: (hexL l.S ++ [[]])).getD 0 []).drop 5) = Lib.decDigits l.sz.toNat := by
    show (sizB ++ Lib.decDigits l.sz.toNat).drop 5 = _
    exact List.drop_left' rfl
  have e2 : ((((sizB ++ Lib.decDigits l.sz.toNat) :: (hexL l.S ++ [[]])).drop 1).take (((sizB ++ Lib.decDigits l.sz.toNat) :: (hexL l.S ++ [[]])).length - 2)) = hexL l.S := by
    rw [List.drop_succ_cons, List.drop_zero, List.length_cons, List.length_append, List.length_cons, List.length_nil]
    exact List.take_left' (by omega)
  rw [e1, e2, numB_dec (by omega)]
  have e3 : (hexL l.S).map (fun x => stB (unhex x)) = l.S := by
    unfold hexL
    rw [List.map_map]
    conv => rhs; rw [← List.map_id l.S]
    apply List.map_congr_left
    intro x _
    show stB (unhex (Lib.Hx.encode (bt x))) = x
    rw [unhex_encode, stB_bt]
  rw [e3]
  obtain ⟨sz, S⟩ := l
  simp only at s0 ⊢
  congr 1
  omega
open Classical in
noncomputable def readL (s : Str) (w : Int) : Lst × Bool := if h : ∃ l, okLs l w = true ∧ stB (formB l) = s then (Classical.choose h, true) else (⟨0, []⟩, false)
theorem read_of {l : Lst} {s : Str} {w : Int} (h : okLs l w = true) (hs : stB (formB l) = s) : readL s w = (l, true) := by
  have hx : ∃ l, okLs l w = true ∧ stB (formB l) = s := ⟨l, h, hs⟩
  unfold readL
  rw [dif_pos hx]
  have := Classical.choose_spec hx
  have e : Classical.choose hx = l := by rw [← parse_form this.1, this.2, ← hs, parse_form h]
  rw [e]
theorem read_no {s : Str} {w : Int} (h : ∀ l, okLs l w = true → stB (formB l) ≠ s) : readL s w = (⟨0, []⟩, false) := by
  unfold readL
  rw [dif_neg]
  rintro ⟨l, h1, h2⟩
  exact h l h1 h2
theorem read_ok {s : Str} {w : Int} (h : (readL s w).2 = true) : okLs (readL s w).1 w = true ∧ stB (formB (readL s w).1) = s := by
  unfold readL at h ⊢
  split
  · rename_i hx
    exact Classical.choose_spec hx
  · rename_i hx
    rw [dif_neg hx] at h; cases h
theorem read_fst {s : Str} {w : Int} (h : (readL s w).2 = false) : (readL s w).1 = ⟨0, []⟩ := by
  unfold readL at h ⊢
  split
  · rename_i hx
    rw [dif_pos hx] at h; cases h
  · rfl
theorem formL_ok {l : Lst} {w : Int} {s : Str} (h : formL l w = s) (hs : 1 ≤ s.size) : okLs l w = true ∧ stB (formB l) = s := by
  unfold formL at h
  split at h
  · rename_i ho; exact ⟨ho, h⟩
  · rw [← h] at hs; exact absurd hs (by decide)
theorem formB_len {l : Lst} {w : Int} (h : okLs l w = true) : 7 ≤ (formB l).length ∧ (formB l).length ≤ 6385 ∧ (formB l).take 5 = sizB := by
  obtain ⟨_, w8, s0, s3, hn, hsz⟩ := okLs_up h
  have h1 := lines_len hsz w8
  have h2 := dec_len4 (n := l.sz.toNat) (by omega)
  have h3 : 0 < (Lib.decDigits l.sz.toNat).length := List.length_pos_iff.2 (dec_ne _)
  have h4 : sizB.length = 5 := rfl
  unfold formB
  refine ⟨?_, ?_, ?_⟩
  · simp only [List.length_append, List.length_cons, List.length_nil]; omega
  · simp only [List.length_append, List.length_cons, List.length_nil]; omega
  · rw [List.append_assoc, List.append_assoc]
    exact List.take_left' rfl
theorem read_spec {s : Str} {w : Int} (hs : 1 ≤ s.size) : readL s w = if formL (parseL s) w = s then (parseL s, true) else (⟨0, []⟩, false) := by
  split
  · rename_i h
    obtain ⟨h1, h2⟩ := formL_ok h hs
    exact read_of h1 h2
  · rename_i h
    refine read_no fun l h1 h2 => h ?_
    rw [← h2, parse_form h1]
    unfold formL; rw [if_pos h1]
theorem read_out {s : Str} {w : Int} (h : s.size < 6 ∨ 7000 < s.size ∨ (bt s).take 5 ≠ sizB) : readL s w = (⟨0, []⟩, false) := by
  refine read_no fun l h1 h2 => ?_
  obtain ⟨a, b, c⟩ := formB_len h1
  rw [← h2, stB_size, bt_stB] at h
  rcases h with h | h | h
  · omega
  · omega
  · exact h c
end Go.Proofs.YtkkmgjhfjhcdmaaGreatDoor.Mx

namespace Go.Proofs.YtkkmgjhfjhcdmaaGreatDoor.Mx
open Go Go.RowKit Go.Proofs
theorem does_new {P : Program} {f : FuncId} {fn : Func} {c : Code} {avs : List AV} {r : AV} (hf : P.funcs[f]? = some fn) (hb : fn.body = some c) (hn : (fn.name == "runtime.NumGoroutine") = false)
    (H : ∀ (w : Go.World) (ok : Nat → Prop) (G : Fp) (args : List Value), ArgsRep w ok G args avs → Calls P f args.toArray w fun e w' => ∃ (v : Value) (F : Nat → Prop), e = .returned v ∧ Below w.heap.size w w' ∧ (∀ b, F b → w.heap.size ≤ b ∧ b < w'.heap.size) ∧ OwnV w' (fun _ => False) F v r) : Does P f avs (r, []) := by
  constructor
  intro w ok G args hA
  left
  have h1 : fn.name ≠ "runtime.NumGoroutine" := by simpa using hn
  refine ⟨by simp [callFunc, hf, h1, hb], (H w ok G args hA).mono fun e w' h => ?_⟩
  obtain ⟨v, F, rfl, hB, hF, hV⟩ := h
  refine ⟨fun i b => i = 0 ∧ F b, ⟨⟨hB.os, hB.tape, hB.output, hB.size, fun k hk _ => hB.block k hk⟩, Kp.old hB.block, fun i j b h h' => h.1.trans h'.1.symm, fun i b h => ⟨(hF b h.2).2, .inl (hF b h.2).1⟩, ?_, fun i t h => by simp at h⟩⟩
  exact OwnV.mono (fun b hb => hb.elim) hV _ fun b hb => ⟨⟨rfl, hb⟩, rfl⟩
theorem own_sc {w : Go.World} {ok F : Nat → Prop} {v : Value} (h : plain v = true) : OwnA w ok F v (.sc v) := Own.rd _ _ _ (by intro z r h; cases h) (by intro cs h; cases h) (.sc v h)
theorem own_er {w : Go.World} {ok F : Nat → Prop} {t : TypeId} {v : Value} : OwnA w ok F (.iface t v) .er := Own.rd _ _ _ (by intro z r h; cases h) (by intro cs h; cases h) (.er t v)
theorem own_two {w : Go.World} {ok F : Nat → Prop} {u v : Value} {x y : AV} (h1 : OwnA w ok F u x) (h2 : OwnA w ok (fun _ => False) v y) : OwnV w ok F (.tuple #[u, v]) (.tu [x, y]) := by
  refine ⟨[u, v], fun i b => i = 0 ∧ F b, rfl, rfl, fun j b h => h.2, fun i j b h h' => h.1.trans h'.1.symm, fun j a z ha hz => ?_⟩
  match j, ha, hz with
  | 0, ha, hz => cases ha; cases hz; exact h1.mono (fun b hb => ⟨hb, rfl⟩) _ fun b hb => ⟨⟨rfl, hb⟩, rfl⟩
  | 1, ha, hz => cases ha; cases hz; exact h2.mono (fun b hb => ⟨hb, rfl⟩) _ fun b hb => hb.elim
  | j + 2, ha, hz => simp at ha
theorem own_row {w : Go.World} {b len cap : Nat} {cur : Array Value} {t : TypeId} {rows : List Row} (hb : w.heap[b]? = some (.cells cur t (0, 0))) (hr : rows.length = len) (hc : len ≤ cap) (hs : cap ≤ cur.size) (hm : cap ≤ maxLen)
    (h : ∀ (i : Nat) (row : Row), rows[i]? = some row → ∃ v : Value, row = ([.sc v] : Row) ∧ cur[i]? = some v ∧ plain v = true ∧ v.oneCell' = true) : OwnA w (fun _ => False) (fun k => k = b) (.slice (some ⟨b, 0, none⟩) len cap) (.sl true 1 rows) := by
  subst hr
  have hx : ∀ (i : Nat) (row : Row) (j : Nat) (x : AV), rows[i]? = some row → row[j]? = some x → ∃ v, cur.getD (0 + (i * 1 + j)) undef = v ∧ x = .sc v ∧ plain v = true ∧ v.oneCell' = true := by
    intro i row j x hi hj
    obtain ⟨v, rfl, h1, h2, h3⟩ := h i row hi
    cases j with
    | succ j => simp at hj
    | zero =>
      cases hj
      exact ⟨v, by simp [Array.getD_eq_getD_getElem?, h1], rfl, h2, h3⟩
  refine Own.sl _ 1 b 0 cap rows cur t (0, 0) (fun _ _ _ => False) rfl hb (fun o _ h => by have := h.2; simp at this) hc (by omega) hm (fun _ _ _ h => h.elim) (fun _ _ _ _ _ h => h.elim) (fun i row hi => ?_) (fun i row j x hi hj => ?_) (fun i row j x hi hj => ?_)
  · obtain ⟨v, rfl, _⟩ := h i row hi; rfl
  · obtain ⟨v, h1, _, _, h3⟩ := hx i row j x hi hj; rw [h1]; exact h3
  · obtain ⟨v, h1, rfl, h2, _⟩ := hx i row j x hi hj
    rw [h1]; exact Own.rd _ _ _ (by intro z r h; cases h) (by intro cs h; cases h) (.sc v h2)
theorem cutPrefix (s p : Str) : Does Tryz.prog 137 [.sc (.string s), .sc (.string p)] (.tu [.sc (.string (stB (Lib.trimPrefix (bt s) (bt p)))), .sc (.bool (Lib.hasPrefix (bt s) (bt p)))], []) := by
  refine does_new Tryz.func137 rfl rfl fun w ok G args hA => ?_
  obtain ⟨u, v, rfl, h0, h1⟩ := args2 hA
  obtain rfl := rep_str (own_rep h0 (by intro z r h; cases h) (by intro cs h; cases h))
  obtain rfl := rep_str (own_rep h1 (by intro z r h; cases h) (by intro cs h; cases h))
  refine (Any.strings_CutPrefix Tryz.cutP s p w).mono fun e w' hh => ?_
  obtain ⟨rfl, rfl⟩ := hh
  exact ⟨_, fun _ => False, rfl, Below.refl _ _, fun b h => h.elim, own_two (own_sc rfl) (own_sc rfl)⟩
theorem atoi_yes (s : Str) (n : Int) (hs : s.size ≤ 18) (h : Lib.atoi (bt s) = some n) : Does Tryz.prog 138 [.sc (.string s)] (.tu [.sc (.int .i64 n), .sc .nilIface], []) := by
  refine does_new Tryz.func138 rfl rfl fun w ok G args hA => ?_
  obtain ⟨u, rfl, h0⟩ := args1' hA
  obtain rfl := rep_str (own_rep h0 (by intro z r h; cases h) (by intro cs h; cases h))
  refine (Any.strconv_Atoi { Tryz.atoiL with } s n hs h w).mono fun e w' hh => ?_
  obtain ⟨rfl, t, rfl⟩ := hh
  exact ⟨_, fun _ => False, rfl, Lib.bytesWorld_below _ _ _, fun b h => h.elim, own_two (own_sc rfl) (own_sc rfl)⟩
theorem atoi_no (s : Str) (hs : s.size ≤ 18) (h : Lib.atoi (bt s) = none) : Does Tryz.prog 138 [.sc (.string s)] (.tu [.sc (.int .i64 0), .er], []) := by
  refine does_new Tryz.func138 rfl rfl fun w ok G args hA => ?_
  obtain ⟨u, rfl, h0⟩ := args1' hA
  obtain rfl := rep_str (own_rep h0 (by intro z r h; cases h) (by intro cs h; cases h))
  have hg : GP w := hA.gw
  obtain ⟨_, _, ⟨t, p, e1, fr, h1⟩, _⟩ := hg
  have hv : w.cell? ⟨(Tryz.atoiL_ren.g 15), 0, none⟩ = some (.iface t p) := by
    show w.cell? ⟨1, 0, none⟩ = _
    simp [World.cell?, h1]
  refine (Any.strconv_Atoi_err Tryz.atoiL s hs h (.iface t p) w hv (.inr ⟨_, _, rfl⟩)).mono fun e w' hh => ?_
  obtain ⟨N, rfl, _, _, hB⟩ := hh
  exact ⟨_, fun _ => False, rfl, hB, fun b h => h.elim, own_two (own_sc rfl) own_er⟩
def decA (l : List UInt8) : AV := match (Lib.Hx.decode l).2 with | .ok => .sc .nilIface | _ => .er
theorem hexDec (s : Str) (hs : s.size ≤ 10000000) : Does Tryz.prog 139 [.sc (.string s)] (.tu [.sl true 1 ((Lib.Hx.decode (bt s)).1.map byteRow), decA (bt s)], []) := by
  refine does_new Tryz.func139 rfl rfl fun w ok G args hA => ?_
  obtain ⟨u, rfl, h0⟩ := args1' hA
  obtain rfl := rep_str (own_rep h0 (by intro z r h; cases h) (by intro cs h; cases h))
  have hg : GP w := hA.gw
  obtain ⟨_, ⟨t, p, e1, fr, h1⟩, _, _⟩ := hg
  have hv : w.cell? ⟨(Tryz.hexD_ren.g 0), 0, none⟩ = some (.iface t p) := by
    show w.cell? ⟨0, 0, none⟩ = _
    simp [World.cell?, h1]
  have hdl := Lib.Hx.decode_len (bt s)
  rw [bt_len] at hdl
  refine (Any.hex_DecodeString Tryz.hexD s w (.iface t p) hv (by omega)).mono fun e w' hh => ?_
  obtain ⟨rfl, ⟨c, hc, hcs, hci⟩, hB⟩ := hh
  have hlt := (Array.getElem?_eq_some_iff.1 hc).1
  change (Lib.Hx.decode s.data.toList).1.length ≤ s.size / 2 at hdl
  refine ⟨_, fun k => k = w.heap.size, rfl, hB, fun b h => ⟨by rw [h]; exact Nat.le_refl _, by rw [h]; exact hlt⟩, own_two (own_row hc (by rw [List.length_map]; rfl) hdl (by omega) (by show _ ≤ 9223372036854775807; omega) fun i row hi => ?_) ?_⟩
  · rw [List.getElem?_map] at hi
    cases hq : (Lib.Hx.decode (bt s)).1[i]? with
    | none => rw [hq] at hi; cases hi
    | some x =>
      rw [hq] at hi; cases hi
      have hil := (List.getElem?_eq_some_iff.1 hq).1
      have := hci i (by have : (Lib.Hx.decode (bt s)).1.length ≤ s.size / 2 := hdl; omega)
      refine ⟨_, rfl, ?_, rfl, rfl⟩
      rw [this]
      unfold Lib.Hx.rowP
      rw [if_pos ⟨Nat.zero_le _, by rw [Nat.zero_add]; exact hil⟩, Nat.sub_zero]
      have hq' : (Lib.Hx.decode s.data.toList).1[i]? = some x := hq
      rw [hq']; rfl
  · unfold decA
    show OwnA _ _ _ (Lib.Hx.errVal _ _ (Lib.Hx.decode (bt s)).2) _
    cases (Lib.Hx.decode (bt s)).2 with
    | ok => exact own_sc rfl
    | bad c => exact own_er
    | odd => exact own_er
theorem splitNl (s : Str) (hs : s.size ≤ 10000000) : Does Tryz.prog 136 [.sc (.string s), .sc (.string ⟨#[10]⟩)] (.sl true 1 (((cutL 10 (bt s)).map stB).map strR), []) := by
  refine does_new Tryz.func136 rfl rfl fun w ok G args hA => ?_
  obtain ⟨u, v, rfl, h0, h1⟩ := args2 hA
  obtain rfl := rep_str (own_rep h0 (by intro z r h; cases h) (by intro cs h; cases h))
  obtain rfl := rep_str (own_rep h1 (by intro z r h; cases h) (by intro cs h; cases h))
  have hg : GP w := hA.gw
  obtain ⟨_, _, _, m, hm⟩ := hg
  refine (Any.strings_Split { Tryz.splitL with } Tryz.splitL.i9 s ⟨#[10]⟩ m w (by omega) hm (by decide)).mono fun e w' hh => ?_
  obtain ⟨rfl, rfl⟩ := hh
  have hdat := Lib.splitB_data ⟨#[10]⟩ 0 (Lib.countB s ⟨#[10]⟩) s
  have hcut := split_cut 10 _ (bt s) (Nat.le_refl _)
  have e1 : Lib.splitB ⟨#[10]⟩ 0 (Lib.countB s ⟨#[10]⟩) s = (cutL 10 (bt s)).map stB := by
    have : (Lib.splitB ⟨#[10]⟩ 0 (Lib.countB s ⟨#[10]⟩) s).map bt = cutL 10 (bt s) := hdat.trans hcut
    rw [← this, List.map_map]
    conv => lhs; rw [← List.map_id (Lib.splitB ⟨#[10]⟩ 0 (Lib.countB s ⟨#[10]⟩) s)]
    apply List.map_congr_left
    intro x _
    exact (stB_bt x).symm
  have hlen := Lib.splitB_all ⟨#[10]⟩ (by decide) 0 _ s rfl
  have hcl := cutF_len 10 (bt s) [] []
  rw [bt_len] at hcl
  have hl2 : ((cutL 10 (bt s)).map stB).length = Lib.countB s ⟨#[10]⟩ + 1 := by rw [← e1]; exact hlen
  have hl3 : (cutL 10 (bt s)).length = Lib.countB s ⟨#[10]⟩ + 1 := by rw [← hl2, List.length_map]
  have hl4 : (cutL 10 (bt s)).length ≤ 1 + s.size := by unfold cutL; simpa using hcl
  rw [e1]
  obtain ⟨w2, hw2⟩ : ∃ w2, w2 = w.alloc (.cells (((cutL 10 (bt s)).map stB).map Value.string).toArray (Tryz.splitL_ren.t 9)) := ⟨_, rfl⟩
  have hal : w2.heap[w.heap.size]? = some (.cells (((cutL 10 (bt s)).map stB).map Value.string).toArray (Tryz.splitL_ren.t 9) (0, 0)) := by rw [hw2]; exact (MapKept.heap_alloc w _).1
  have hsz : w2.heap.size = w.heap.size + 1 := by rw [hw2]; show (w.heap.push _).size = _; simp
  have hold : ∀ k, k < w.heap.size → w2.heap[k]? = w.heap[k]? := by rw [hw2]; exact (MapKept.heap_alloc w _).2
  rw [← hw2]
  refine ⟨_, fun k => k = w.heap.size, rfl, ?_, fun b h => ⟨by rw [h]; exact Nat.le_refl _, by rw [h, hsz]; omega⟩, ?_⟩
  · exact ⟨by rw [hw2]; rfl, by rw [hw2]; rfl, by rw [hw2]; rfl, by rw [hsz]; omega, hold⟩
  · rw [← hl3]
    refine (show OwnA _ _ _ _ _ from own_row hal (by rw [List.length_map, List.length_map]) (Nat.le_refl _) (by simp) (by show _ ≤ 9223372036854775807; omega) fun i row hi => ?_)
    rw [List.getElem?_map] at hi
    cases hq : ((cutL 10 (bt s)).map stB)[i]? with
    | none => rw [hq] at hi; cases hi
    | some x =>
      rw [hq] at hi; cases hi
      refine ⟨_, rfl, ?_, rfl, rfl⟩
      rw [List.getElem?_toArray, List.getElem?_map, hq]; rfl
end Go.Proofs.YtkkmgjhfjhcdmaaGreatDoor.Mx

namespace Go.Proofs.YtkkmgjhfjhcdmaaGreatDoor.Mx
open Go Go.RowKit Go.Proofs Go.Proofs.YtkkmgjhfjhcdmaaGreatDoor
theorem pow_of_laid {n1 n2 : String} {D1 D2 : DataW Unit} {rest : List (String × DataW Unit)} {W : Go.World} (h : laidMet Tryz.prog ((n1, D1) :: (n2, D2) :: ("internal/strconv.uint64pow10", Rows.laid_internal_strconv_uint64pow10) :: rest) W) :
    ∃ e fr, W.heap[3]? = some (.cells (Lib.pow10Tab.map fun z => Value.int .u64 z).toArray e fr) := by
  have h3 := h.tail.tail
  have e : (Rows.laid_internal_strconv_uint64pow10 : DataW Unit) = Lib.tabData .u64 Lib.pow10Tab := by kernel_rfl
  rw [e] at h3
  have ht := Lib.tabIs_of_head (k := .u64) (zs := Lib.pow10Tab) (n := 20) (t := 255) (e := 103) (show Tryz.prog.globalNamed "internal/strconv.uint64pow10" = some 3 by kernel_rfl) (by kernel_rfl) Tryz.underlying255 Tryz.underlying103 (by kernel_rfl) (by kernel_rfl) h3
  unfold Lib.TabIs World.var? at ht
  rw [show Tryz.prog.globalNamed "internal/strconv.uint64pow10" = some 3 by kernel_rfl] at ht
  simp only [Option.bind_some] at ht
  split at ht
  · rename_i cs e fr hc
    cases ht
    exact ⟨e, fr, hc⟩
  · cases ht
theorem sent_laid {P : Program} {n nm : String} {d : DataW Unit} {r : List (String × DataW Unit)} {W : Go.World} {g : Nat} {ti : TypeId} {ms : Array (String × TypeId)}
    (h : laidMet P ((n, .iface nm d) :: r) W) (hg : P.globalNamed n = some g) (ht : (P.globals[g]?).map (·.type) = some ti) (hi : P.underlying ti = some (.interface ms)) :
    ∃ t p e fr, W.heap[g]? = some (.cells #[.iface t p] e fr) := by
  obtain ⟨ps, ⟨g0, t0, cs0, f0, p0, q0, hg0, ht0, hv0, hd0, _, e0⟩, _, hrows⟩ := h
  obtain rfl := Option.some.inj (hg.symm.trans hg0)
  obtain rfl := Option.some.inj (ht.symm.trans ht0)
  obtain ⟨f1, u, v, hcs, _, _⟩ := iface_of_trod hi hd0
  have hcs' : cs0 = #[.iface u v] := by
    cases cs0; simp_all
  subst hcs'
  unfold World.var? at hv0
  rw [hg] at hv0
  simp only [Option.bind_some] at hv0
  split at hv0
  · rename_i cs e fr hc
    cases hv0
    exact ⟨u, v, e, fr, hc⟩
  · cases hv0
theorem gp_of_laid {n1 n2 n4 n5 n8 : String} {D1 D2 D4 D5 D8 : DataW Unit} {W : Go.World} (h : laidMetH Tryz.prog [(n1, D1), (n2, D2), ("internal/strconv.uint64pow10", Rows.laid_internal_strconv_uint64pow10), (n4, D4), (n5, D5), ("strconv.ErrSyntax", Rows.laid_strconv_ErrSyntax), ("encoding/hex.ErrLength", Rows.laid_encoding_hex_ErrLength), (n8, D8)] W)
    (hp : ([(n1, D1), (n2, D2), ("internal/strconv.uint64pow10", Rows.laid_internal_strconv_uint64pow10), (n4, D4), (n5, D5), ("strconv.ErrSyntax", Rows.laid_strconv_ErrSyntax), ("encoding/hex.ErrLength", Rows.laid_encoding_hex_ErrLength), (n8, D8)].all fun x => x.2.handleName?.isNone) = true)
    (hsh : W.ShapedOpen Tryz.prog) : NG ≤ W.heap.size ∧ GP W := by
  rw [MakeChecks.laidMetH_plain _ _ _ hp] at h
  obtain ⟨e, fr, h3⟩ := pow_of_laid h
  have h1 := sent_laid h.tail.tail.tail.tail.tail (g := 1) (by kernel_rfl) (by kernel_rfl) Tryz.underlying156
  have h0 := sent_laid h.tail.tail.tail.tail.tail.tail (g := 0) (by kernel_rfl) (by kernel_rfl) Tryz.underlying156
  obtain ⟨m, hm⟩ := Tryz.splitL.s1_3 W hsh
  have hm : W.cell? ⟨4, 0, none⟩ = some (.int .i64 m) := hm
  refine ⟨?_, ⟨e, fr, h3⟩, h0, h1, m, hm⟩
  show 5 ≤ _
  apply Classical.byContradiction
  intro hc
  have : W.heap[4]? = none := Array.getElem?_eq_none (by omega)
  simp [World.cell?, this] at hm
theorem rih_shaped {H : Type} {enc : TypeId × Value → H} {a : Assume} {C : Checked} {os : Os} {f : FuncId} {fn : Func} {s : ChangeSpec} {conds : List PathCond} {apart fresh handsOn again : Bool} {X : Go.World → Array Value → Prop}
    (hX : ∀ (w w' : Go.World) (args : Array Value), w.heap = w'.heap → X w args → X w' args)
    (own : ownKnob C.prog.godebug = none) (started : os.Started) (noInit : C.prog.inits.idxOf? f = none) (hfn : C.prog.funcs[f]? = some fn)
    (witness : ∃ (w : Go.World) (tape : Tape) (i : Input), w.os = os ∧ (w.forCall tape i).Shaped C.prog ∧ i.vars = [] ∧ Input.okWide C.prog (w.forCall tape i) .any w.heap.size f i ∧
      ((s.pre enc C.prog fn conds apart (w.forCall tape i).memory i.args ∧ X (w.forCall tape i).memory i.args) ∧ sizedMet enc C.prog fn (OpenSpec.ofChange s) apart (w.forCall tape i).memory i.args) ∧ a.holds C.prog (lone (Frame.enter C.prog f i.args .normal) [] (w.forCall tape i)))
    (contract : ∀ (W : Go.World) (base : Nat) (args : Array Value) (ds gs : List (DataW H)) (before : List MemPlace),
      (∀ (j : Nat) t v, fn.params[j]? = some t → args[j]? = some v → Value.okWide C.prog W .any base t v) →
      DataW.Whole enc C.prog fn.params.toList s.vars apart W args.toList ds gs before → X W args → W.ShapedOpen C.prog →
      Calls C.prog f args W fun e W' => ∃ v, e = .returned v ∧ s.post enc C.prog fn apart fresh handsOn again W args v W') :
    ReturnsInHanded a C os f .any (fun w args => (s.pre enc C.prog fn conds apart w args ∧ X w args) ∧ sizedMet enc C.prog fn (OpenSpec.ofChange s) apart w args) (s.post enc C.prog fn apart fresh handsOn again) := by
  refine returnsInHanded_of_calls own started noInit witness ?_
  intro w tape i _ hs _ hok hp _
  obtain ⟨_, _, _, g, hg, _, _, _, _, hv⟩ := hok
  obtain rfl : g = fn := Option.some.inj (hg.symm.trans hfn)
  obtain ⟨⟨⟨ds, gs, before, hw, _⟩, hx⟩, _⟩ := hp
  refine (contract (w.forCall tape i) w.heap.size i.args ds gs before hv (DataW.Whole.of_heap (w' := w.forCall tape i) (by rfl) hw) (hX _ _ _ (by rfl) hx) hs).mono fun e W' k => ?_
  obtain ⟨v, he, hq⟩ := k
  subst he
  exact ChangeSpec.post_blind hq
end Go.Proofs.YtkkmgjhfjhcdmaaGreatDoor.Mx

namespace Go.Proofs.YtkkmgjhfjhcdmaaGreatDoor.Mx
open Go Go.RowKit
def endsB (p : List UInt8) : Bool := decide (8 ≤ p.length) && (decide (64 ≤ p.length) || decide (hash64 (p.drop (p.length - 8)) % 16 = 0))
def pcF : List UInt8 → List UInt8 → List (List UInt8)
  | cur, [] => if cur = [] then [] else [cur]
  | cur, x :: r => if endsB (cur ++ [x]) = true then (cur ++ [x]) :: pcF [] r else pcF (cur ++ [x]) r
def piecesL (t : Str) : List Str := if 3000 < t.size then [] else (pcF [] (bt t)).map stB
def curB (s : Str) (a i : Nat) : List UInt8 := ((bt s).take i).drop a
theorem cur_nil (s : Str) (i : Nat) : curB s i i = [] := by
  unfold curB
  exact List.drop_eq_nil_of_le (by rw [List.length_take]; omega)
theorem cur_step {s : Str} {a i : Nat} {x : UInt8} (h : (bt s)[i]? = some x) (ha : a ≤ i) : curB s a (i + 1) = curB s a i ++ [x] := by
  unfold curB
  have hi := (List.getElem?_eq_some_iff.1 h).1
  rw [take_step h, List.drop_append_of_le_length (by rw [List.length_take]; omega)]
theorem cur_len {s : Str} {a i : Nat} (hi : i ≤ s.size) : (curB s a i).length = i - a := by
  unfold curB
  rw [List.length_drop, List.length_take, bt_len]; omega
theorem bt_ext (s : Str) (a b : Nat) : bt (s.extract a b) = curB s a b := by
  unfold curB bt
  rw [ByteArray.data_extract]
  simp [List.drop_take]
theorem ext_cur (s : Str) (a b : Nat) : s.extract a b = stB (curB s a b) := by rw [← bt_ext, stB_bt]
theorem ext_size {s : Str} {a b : Nat} (h : b ≤ s.size) : (s.extract a b).size = b - a := by rw [← bt_len, bt_ext, cur_len h]
theorem cur_cur {s : Str} {a i : Nat} (k : Nat) (_ : a ≤ i) : (curB s a i).drop k = curB s (a + k) i := by
  unfold curB; rw [List.drop_drop]
theorem ends_ext {s : Str} {a i : Nat} (hi : i ≤ s.size) (ha : a ≤ i) : endsB (curB s a i) = (decide (8 ≤ i - a) && (decide (64 ≤ i - a) || decide (hash64 (bt (s.extract (i - 8) i)) % 16 = 0))) := by
  unfold endsB
  rw [cur_len hi, bt_ext]
  by_cases h : 8 ≤ i - a
  · rw [cur_cur _ ha, show a + (i - a - 8) = i - 8 by omega]
  · simp [h]
theorem pc_end (cur : List UInt8) (h : cur = []) : pcF cur [] = [] := by rw [pcF, if_pos h]
theorem pc_yes {cur r : List UInt8} {x : UInt8} (h : endsB (cur ++ [x]) = true) : pcF cur (x :: r) = (cur ++ [x]) :: pcF [] r := by rw [pcF, if_pos h]
theorem pc_no {cur r : List UInt8} {x : UInt8} (h : endsB (cur ++ [x]) = false) : pcF cur (x :: r) = pcF (cur ++ [x]) r := by rw [pcF, if_neg (by rw [h]; simp)]
theorem pc_last {cur : List UInt8} {x : UInt8} : pcF cur [x] = [cur ++ [x]] := by
  rw [pcF]
  split
  · rw [pcF, if_pos rfl]
  · rw [pcF, if_neg (by simp)]
theorem pc_len : ∀ (r cur : List UInt8), (pcF cur r).length ≤ r.length + 1
  | [], cur => by rw [pcF]; split <;> simp
  | x :: r, cur => by
    rw [pcF]
    split
    · have := pc_len r []; simp only [List.length_cons]; omega
    · have := pc_len r (cur ++ [x]); simp only [List.length_cons]; omega
theorem pc_join : ∀ (r cur : List UInt8), (pcF cur r).flatten = cur ++ r
  | [], cur => by rw [pcF]; split <;> simp [*]
  | x :: r, cur => by
    rw [pcF]
    split
    · rw [List.flatten_cons, pc_join r []]; simp
    · rw [pc_join r]; simp
theorem pieces_len (t : Str) : (piecesL t).length ≤ 3001 := by
  unfold piecesL
  split
  · simp
  · rw [List.length_map]
    have := pc_len (bt t) []
    rw [bt_len] at this; omega
theorem pc_sz : ∀ (r cur : List UInt8) (n : Nat), cur.length + r.length ≤ n → ∀ p ∈ pcF cur r, p.length ≤ n
  | [], cur, n, h, p, hp => by
    rw [pcF] at hp
    split at hp
    · cases hp
    · rw [List.mem_singleton.1 hp]; simpa using h
  | x :: r, cur, n, h, p, hp => by
    rw [pcF] at hp
    rw [List.length_cons] at h
    split at hp
    · rcases List.mem_cons.1 hp with rfl | hp
      · rw [List.length_append, List.length_cons, List.length_nil]; omega
      · exact pc_sz r [] n (by rw [List.length_nil]; omega) p hp
    · exact pc_sz r (cur ++ [x]) n (by rw [List.length_append, List.length_cons, List.length_nil]; omega) p hp
theorem pieces_sz {t p : Str} (h : p ∈ piecesL t) : p.size ≤ 3000 := by
  unfold piecesL at h
  split at h
  · cases h
  · obtain ⟨q, hq, rfl⟩ := List.mem_map.1 h
    rw [stB_size]
    exact Nat.le_trans (pc_sz (bt t) [] t.size (by rw [bt_len]; simp) q hq) (by omega)
def emL : Lst := ⟨0, []⟩
def descL (t : Str) (w : Int) : Lst × Bool := if 3000 < t.size ∨ inB w 1 8 = false then (emL, false) else (⟨t.size, (piecesL t).map fun p => sumS p w⟩, true)
def nameS (t : Str) (w : Int) : Str := if (descL t w).2 = true then sumS (formL (descL t w).1 w) w else em
end Go.Proofs.YtkkmgjhfjhcdmaaGreatDoor.Mx

namespace Go.Proofs.YtkkmgjhfjhcdmaaGreatDoor.Mx
open Go Go.RowKit
theorem pc_len8 : ∀ (r cur : List UInt8), 8 * (pcF cur r).length ≤ cur.length + r.length + 7
  | [], cur => by
    rw [pcF]
    split
    · simp
    · rename_i h
      have := List.length_pos_iff.2 h
      simp only [List.length_cons, List.length_nil]; omega
  | x :: r, cur => by
    rw [pcF]
    split
    · rename_i h
      have h8 : 8 ≤ (cur ++ [x]).length := by
        unfold endsB at h
        simp only [Bool.and_eq_true, decide_eq_true_eq] at h
        exact h.1
      have := pc_len8 r []
      rw [List.length_append] at h8
      simp only [List.length_cons, List.length_nil] at this h8 ⊢; omega
    · have := pc_len8 r (cur ++ [x])
      rw [List.length_append] at this
      simp only [List.length_cons, List.length_nil] at this ⊢; omega
theorem pieces_len8 (t : Str) : (piecesL t).length ≤ 375 := by
  unfold piecesL
  split
  · simp
  · rename_i h
    have := pc_len8 (bt t) []
    rw [bt_len, List.length_nil] at this
    rw [List.length_map]; omega
theorem pieces_inj {a b : Str} (ha : a.size ≤ 3000) (hb : b.size ≤ 3000) (h : piecesL a = piecesL b) : a = b := by
  unfold piecesL at h
  rw [if_neg (by omega), if_neg (by omega)] at h
  have h2 := congrArg (fun l => (l.map bt).flatten) h
  simp only [List.map_map] at h2
  have e : ∀ l : List (List UInt8), l.map (bt ∘ stB) = l := fun l => by
    rw [show (bt ∘ stB) = id from funext bt_stB, List.map_id]
  rw [e, e, pc_join, pc_join, List.nil_append, List.nil_append] at h2
  rw [← stB_bt a, h2, stB_bt]
theorem desc_eq {t : Str} {w : Int} (h : t.size ≤ 3000) (hw : inB w 1 8 = true) : descL t w = (⟨t.size, (piecesL t).map fun p => sumS p w⟩, true) := by
  unfold descL
  rw [if_neg (by rintro (q | q); omega; rw [hw] at q; cases q)]
theorem desc_ok {t : Str} {w : Int} (h : t.size ≤ 3000) (hw : inB w 1 8 = true) : okLs (descL t w).1 w = true := by
  rw [desc_eq h hw]
  have hw' : 1 ≤ w ∧ w ≤ 8 := of_decide_eq_true hw
  unfold okLs
  have := pieces_len8 t
  simp only [hw, Bool.true_and, Bool.and_eq_true, decide_eq_true_eq, List.length_map, List.all_eq_true]
  refine ⟨⟨decide_eq_true (by omega), this⟩, ?_⟩
  intro x hx
  obtain ⟨p, _, rfl⟩ := List.mem_map.1 hx
  exact sumS_size hw'.1 hw'.2
def nocl (L : List Str) (w : Int) : Prop := ∀ x ∈ L, ∀ y ∈ L, sumS x w = sumS y w → x = y
def twoL (a b : Str) (w : Int) : List Str := [formL (descL a w).1 w] ++ piecesL a ++ [formL (descL b w).1 w] ++ piecesL b
theorem map_inj {f : Str → Str} : ∀ {l m : List Str}, (∀ x ∈ l, ∀ y ∈ m, f x = f y → x = y) → l.map f = m.map f → l = m
  | [], [], _, _ => rfl
  | [], y :: m, _, h => by simp at h
  | x :: l, [], _, h => by simp at h
  | x :: l, y :: m, H, h => by
    rw [List.map_cons, List.map_cons] at h
    injection h with h1 h2
    rw [H x (by simp) y (by simp) h1, map_inj (fun u hu v hv => H u (by simp [hu]) v (by simp [hv])) h2]
theorem name_two {a b : Str} {w : Int} (ha : a.size ≤ 3000) (hb : b.size ≤ 3000) (hw : inB w 1 8 = true) (hn : nameS a w = nameS b w) (nc : nocl (twoL a b w) w) : a = b := by
  have da := desc_eq ha hw
  have db := desc_eq hb hw
  have oa := desc_ok ha hw
  have ob := desc_ok hb hw
  have fa : (descL a w).2 = true := by rw [da]
  have fb : (descL b w).2 = true := by rw [db]
  unfold nameS at hn
  rw [if_pos fa, if_pos fb] at hn
  have e1 := nc _ (by unfold twoL; simp) _ (by unfold twoL; simp) hn
  unfold formL at e1
  rw [if_pos oa, if_pos ob] at e1
  have e2 := parse_form oa
  rw [e1, parse_form ob, da, db] at e2
  have e3 := congrArg Lst.S e2
  simp only at e3
  exact pieces_inj ha hb (map_inj (fun x hx y hy => nc x (by unfold twoL; simp [hx]) y (by unfold twoL; simp [hy])) e3.symm)
theorem two_len (a b : Str) (w : Int) : (twoL a b w).length ≤ 752 := by
  unfold twoL
  have := pieces_len8 a
  have := pieces_len8 b
  simp only [List.length_append, List.length_cons, List.length_nil]; omega
def shareN (a b : Str) : Nat → Int
  | 0 => 0
  | i + 1 => shareN a b i + (match (piecesL b)[i]? with | some x => bif inL (piecesL a) x then (x.size : Int) else 0 | none => 0)
theorem share_nn (a b : Str) : ∀ i, 0 ≤ shareN a b i ∧ shareN a b i ≤ 3000 * i
  | 0 => by simp [shareN]
  | i + 1 => by
    have := share_nn a b i
    rw [shareN]
    split
    · rename_i x hx
      have := pieces_sz (List.mem_of_getElem? hx)
      cases inL (piecesL a) x <;> simp only [cond_true, cond_false] <;> omega
    · omega
theorem share_step {a b : Str} {i : Nat} {x : Str} (h : (piecesL b)[i]? = some x) : shareN a b (i + 1) = shareN a b i + (bif inL (piecesL a) x then (x.size : Int) else 0) := by
  rw [shareN, h]
end Go.Proofs.YtkkmgjhfjhcdmaaGreatDoor.Mx

/- A machine over values for Go functions, proved sound, and functions run on it: texts F81, F67, V18, F69, F70, F71, F72, F66, F68, LFnFetch. -/
import Derived.Test.YtkkmgjhfjhcdmaaGreatDoorShK
import Derived.Deep.QuietTactic
import Derived.Test.YtkkmgjhfjhcdmaaGreatDoorFnFetchXaa
import Derived.Test.YtkkmgjhfjhcdmaaGreatDoorFnFetchXac
import Derived.Test.YtkkmgjhfjhcdmaaGreatDoorFnFetchXag
import Derived.Test.YtkkmgjhfjhcdmaaGreatDoorFnFetchXah
import Derived.Test.YtkkmgjhfjhcdmaaGreatDoorFnFetchXam
import Derived.Test.YtkkmgjhfjhcdmaaGreatDoorFnFetchXan
import Derived.Test.YtkkmgjhfjhcdmaaGreatDoorFnFetchXao
import Derived.Test.YtkkmgjhfjhcdmaaGreatDoorFnFetchXap
import Derived.Test.YtkkmgjhfjhcdmaaGreatDoorFnFetchXar
set_option linter.all false
namespace Go.Proofs.YtkkmgjhfjhcdmaaGreatDoor.Mx
open Go Go.RowKit Go.Proofs
theorem rF81_0 {p q : Prop} (k : q) (h : p = q := by conv => lhs; simp -dsimp (disch := first | omega | (simp only [zF, eqF, eq1, eqs, LR] <;> omega) | fail) only [push_cast, zF, eqF, eq1, eqs, simprocAttr, -Nat.reduceSubDiff]) : p := h.mpr k
def E47 : Env := { T := T0, kp := look [(0, [0, 1]), (1, [2, 3]), (2, []), (3, [2, 3]), (4, [2, 3, 5]), (5, [2, 3, 5]), (6, [2, 3, 5]), (7, [2, 3, 5, 6]), (8, [2, 3, 5, 6, 7]), (9, []), (10, [])] }
attribute [local push_cast] E47
set_option maxRecDepth 20000 in
set_option maxHeartbeats 2000000 in
theorem wFetch (f : Fetch) (hf : okFetch f) : Does Tryz.prog 47 [.ag (fetchC false f), .ag (fetchC false f)] (.sc (.bool true), []) := by
  refine does_of (E := E47) (rs := [.tmp 4]) (lent := []) tOk rfl Tryz.func47 rfl (by decide) rfl rfl (Nat.le_of_ble_eq_true rfl) (Nat.le_of_ble_eq_true rfl) ?_
  have hl := hf.2.2.1
  ((refine rF81_0 ?_ <;> repeat (refine dr ?_; refine rF81_0 ?_)) <;> try exact nop)
  refine callC (wStore f.st hf.2.1) ?_
  ((refine rF81_0 ?_ <;> repeat (refine dr ?_; refine rF81_0 ?_)) <;> try exact nop)
  refine loop_ind (α := Nat) (fun i => i ≤ f.Q.length) (fun i => ⟨[(2, .pt 1 0 0), (3, .pt 2 0 0), (5, .sc (.int .i64 i))], [(1, .bx (fetchC false f)), (2, .bx (fetchC false f))], 3⟩) (fun i => f.Q.length - i) 0 (Nat.zero_le _) ?_ ?_
  · ((refine go0 ?_) <;> try exact nop)
  intro i hi ih
  by_cases h : i < f.Q.length
  · obtain ⟨p, hp⟩ := ex_get h
    have hN := (hf.2.2.2 p (List.mem_of_getElem? hp)).2.1
    (have zF := an h hp; (refine rF81_0 ?_ <;> repeat (refine dr ?_; refine rF81_0 ?_)) <;> first | exact nop | clear zF)
    refine callC (wTexts p.N hN) ?_
    ((refine go0 ?_ <;> repeat (refine dr ?_; refine go0 ?_)) <;> try exact nop)
    refine ih (i + 1) _ (by omega) h ?_
    ((refine go1 ?_) <;> try exact nop)
  · (have zF := h; (refine go0 ?_ <;> repeat (refine dr ?_; refine go0 ?_)) <;> first | exact nop | clear zF)
def E48 : Env := { T := T0, kp := look [(0, [0, 1]), (1, [0, 1]), (2, []), (3, [0, 1]), (4, [0, 1, 5]), (5, [0, 1, 5]), (6, [0, 1, 5]), (7, []), (8, [])], dp := look2 [(6, [[], [], [0, 1], [0, 1, 2], [], [], [4, 5], [4, 5, 6], [0, 1, 2, 3, 4, 5, 6, 7]])] }
attribute [local push_cast] E48
set_option maxHeartbeats 1000000 in
theorem wMessages (L : List Message) (hl : L.length ≤ 2097152) : Does Tryz.prog 48 [.sl false 5 (L.map (messageC false)), .sl false 5 (L.map (messageC false))] (.sc (.bool true), []) := by
  refine does_of (E := E48) (rs := [.tmp 4]) (lent := []) tOk rfl Tryz.func48 rfl (by decide) rfl rfl (Nat.le_of_ble_eq_true rfl) (Nat.le_of_ble_eq_true rfl) ?_
  ((refine go0 ?_ <;> repeat (refine dr ?_; refine go0 ?_)) <;> try exact nop)
  refine loop_ind (α := Nat) (fun i => i ≤ L.length) (fun i => ⟨[(0, .sl false 5 (L.map (messageC false))), (1, .sl false 5 (L.map (messageC false))), (5, .sc (.int .i64 i))], [], 1⟩) (fun i => L.length - i) 0 (Nat.zero_le _) ?_ ?_
  · ((refine go0 ?_) <;> try exact nop)
  intro i hi ih
  by_cases h : i < L.length
  · obtain ⟨m, hm⟩ := ex_get h
    (have zF := an h hm; (refine rF81_0 ?_ <;> repeat (refine dr ?_; refine rF81_0 ?_)) <;> first | exact nop | clear zF)
    refine ih (i + 1) _ (by omega) h ?_
    ((refine go1 ?_) <;> try exact nop)
  · (have zF := h; (refine go0 ?_ <;> repeat (refine dr ?_; refine go0 ?_)) <;> first | exact nop | clear zF)
end Go.Proofs.YtkkmgjhfjhcdmaaGreatDoor.Mx

namespace Go.Proofs.YtkkmgjhfjhcdmaaGreatDoor.Mx
open Go Go.RowKit Go.Proofs Go.Sort
set_option maxRecDepth 20000 in
set_option maxHeartbeats 2000000 in
theorem less_tick (fb ob blk off c qb qo qn qc size : Nat) (W : Go.World) (G : Nat → Nat) (La : Nat → Int)
    (hf : W.cell? ⟨fb, 7, none⟩ = some (.slice (some ⟨qb, qo, none⟩) qn qc))
    (ho : W.cell? ⟨ob, 0, none⟩ = some (.slice (some ⟨blk, off, none⟩) size c))
    (hc : ∀ t, t < size → W.cell? ⟨blk, off + t, none⟩ = some (.int .i64 (G t))) (hG : ∀ t, t < size → G t < qn)
    (hq : ∀ k, k < qn → W.cell? ⟨qb, qo + k * 5 + 2, none⟩ = some (.int .i64 (La k)))
    (i j : Nat) (hi : i < size) (hj : j < size) (hsz : size < 4611686018427387904) (hqn : qn < 4611686018427387904) :
    Calls Tryz.prog 128 #[.int .i64 i, .int .i64 j, .pointer (some ⟨fb, 0, none⟩), .pointer (some ⟨ob, 0, none⟩)] W fun e w' => e = .returned (.bool (decide (La (G i) < La (G j)))) ∧ ∃ q, w' = W.drewN q := by
  have ci := hc i hi
  have cj := hc j hj
  have gi := hG i hi
  have gj := hG j hj
  have qi := hq _ gi
  have qj := hq _ gj
  go_enter Tryz.func128, Tryz.ntmps128
  go_wp2
  go_quiet (fail)
  go_wp2
  go_ret
  exact ⟨rfl, nq, rfl⟩
end Go.Proofs.YtkkmgjhfjhcdmaaGreatDoor.Mx

namespace Go.Proofs.YtkkmgjhfjhcdmaaGreatDoor.Mx
open Go Go.RowKit Go.Sort
section
variable {α : Type} [Inhabited α]
def insG (lt : α → α → Bool) (x : α) : List α → List α
  | [] => [x]
  | y :: r => if lt x y = true then y :: insG lt x r else x :: y :: r
def insGA (lt : α → α → Bool) : List α → List α → List α
  | acc, [] => acc
  | acc, x :: r => insGA lt (insG lt x acc) r
theorem insG_len (lt : α → α → Bool) (x : α) : ∀ acc, (insG lt x acc).length = acc.length + 1
  | [] => rfl
  | y :: r => by rw [insG]; split <;> simp [insG_len lt x r]
theorem at_mid {r l : List α} {y : α} : ((r ++ y :: l).toArray)[r.length]! = y := by
  rw [getElem!_def]
  simp
theorem at_mid1 {r l : List α} {y x : α} : ((r ++ y :: x :: l).toArray)[r.length + 1]! = x := by
  rw [getElem!_def]
  simp [List.getElem?_append_right]
theorem swp_mid {r l : List α} {y x : α} : swp (r ++ y :: x :: l).toArray (r.length + 1) r.length = (r ++ x :: y :: l).toArray := by
  unfold swp
  rw [at_mid, at_mid1]
  simp [List.setIfInBounds_toArray, List.set_append_right]
theorem ins1 (lt : α → α → Bool) (x : α) : ∀ (acc rest : List α), insInner lt 0 acc.length (acc.reverse ++ x :: rest).toArray = ((insG lt x acc).reverse ++ rest).toArray
  | [], rest => by simp [insInner, insG]
  | y :: r, rest => by
    have e : (y :: r).reverse ++ x :: rest = r.reverse ++ y :: x :: rest := by simp
    have h1 := at_mid (r := r.reverse) (l := x :: rest) (y := y)
    have h2 := at_mid1 (r := r.reverse) (l := rest) (y := y) (x := x)
    have h3 := swp_mid (r := r.reverse) (l := rest) (y := y) (x := x)
    rw [List.length_reverse] at h1 h2 h3
    rw [List.length_cons, insInner, e, h1, h2, h3, insG]
    cases c : lt x y with
    | true =>
      rw [if_pos (by simp), if_pos rfl, ins1 lt x r (y :: rest)]
      simp
    | false =>
      rw [if_neg (by simp), if_neg (by simp)]
      simp
theorem ins_all (lt : α → α → Bool) : ∀ (l acc : List α) (b : Nat), b = acc.length + l.length → insOuter lt 0 b acc.length (acc.reverse ++ l).toArray = (insGA lt acc l).reverse.toArray
  | [], acc, b, hb => by
    rw [insOuter, if_neg (by rw [List.length_nil] at hb; omega), insGA]
    simp
  | x :: r, acc, b, hb => by
    rw [List.length_cons] at hb
    rw [insOuter, if_pos (by omega), ins1, insGA]
    have := ins_all lt r (insG lt x acc) b (by rw [insG_len]; omega)
    rw [insG_len] at this
    exact this
theorem insG_map (lt : Nat → Nat → Bool) (f : α → Nat) (x : α) : ∀ acc : List α, (insG (fun a b => lt (f a) (f b)) x acc).map f = insR lt (f x) (acc.map f)
  | [] => rfl
  | y :: r => by
    rw [insG, List.map_cons, insR]
    split
    · rw [List.map_cons, insG_map lt f x r]
    · rfl
theorem insGA_map (lt : Nat → Nat → Bool) (f : α → Nat) : ∀ (l acc : List α), (insGA (fun a b => lt (f a) (f b)) acc l).map f = insAll lt (acc.map f) (l.map f)
  | [], acc => rfl
  | x :: r, acc => by rw [insGA, List.map_cons, insAll, insGA_map lt f r, insG_map]
theorem sort_list (Q : List Peer) (f : α → Nat) (l : List α) : ∃ l' : List α, insertionSort (fun a b => ltP Q (f a) (f b)) l.toArray 0 l.length = l'.toArray ∧ l'.map f = sortT Q (l.map f) := by
  unfold insertionSort sortT
  cases l with
  | nil => exact ⟨[], by rw [insOuter]; simp, by simp [insAll]⟩
  | cons x r =>
    have := ins_all (fun a b => ltP Q (f a) (f b)) r [x] (x :: r).length (by simp; omega)
    simp only [List.length_singleton, List.reverse_singleton, List.singleton_append] at this
    refine ⟨_, this, ?_⟩
    rw [List.map_reverse, insGA_map]
    rfl
end
end Go.Proofs.YtkkmgjhfjhcdmaaGreatDoor.Mx

namespace Go.Proofs.YtkkmgjhfjhcdmaaGreatDoor.Mx
open Go Go.RowKit Go.Proofs Go.Sort
section
variable {w0 : Go.World} {M R : Nat → Prop} {γ : Gs} {φ : Fp} {tv : Tv} {sv : Sv} {a : Act} {w : Go.World}
theorem sim_grow (h : Sim w0 M R γ φ tv sv a w) (n : Nat) (os : Array Obj) : Sim w0 M R γ φ tv sv a (Sort.grow (Sort.ahead w n) os) := by
  have hold : ∀ k, k < w.heap.size → (Sort.grow (Sort.ahead w n) os).heap[k]? = w.heap[k]? := fun k hk => by
    simp only [Sort.grow]
    rw [Array.getElem?_append_left (by simpa [Sort.ahead] using hk)]
    rfl
  have hsz : w.heap.size ≤ (Sort.grow (Sort.ahead w n) os).heap.size := by simp [Sort.grow, Sort.ahead]
  refine (h.step (fun _ => False) (fun _ _ h => h) (fun _ _ => ⟨rfl, rfl⟩) ?_ (Kp.old hold) hsz (fun b hb _ => hold b hb) (fun _ _ h => h.elim) (fun _ _ h => h.elim) (fun _ _ _ _ _ _ _ h => h.elim)
    (fun _ _ _ _ _ _ h => h.elim) (fun _ _ _ h => h.elim)).1
  exact ⟨h.fr.os, h.fr.tape, h.fr.output, Nat.le_trans h.fr.size hsz, fun k hk hM => by
    rw [hold k (Nat.lt_of_lt_of_le hk h.fr.size)]
    exact h.fr.block k hk hM⟩
def encN (k : Nat) : Value := .int .i64 k
theorem sim_sorted (h : Sim w0 M R γ φ tv sv a w) {mk vk : Nat} {D D' : List Nat} (hmk : sv mk = some (.ar 1 vk (D.map natR))) (hlen : D'.length = D.length) (h0 : 0 < D.length)
    (hal : ∀ k p i j v, sv k = some (.sb p i j v) → p ≠ mk) (hit : ∀ k p v seen, sv k = some (.it p v seen) → p ≠ mk) {b off cap : Nat} (hg : γ mk = some (.slice (some ⟨b, off, none⟩) D.length cap, 1)) :
    Sim w0 M R γ φ tv (updS sv mk (some (.ar 1 vk (D'.map natR)))) a (putRow encN w b off D'.toArray) := by
  obtain ⟨v0, g1, ho⟩ := h.bk mk _ hmk
  rw [hg] at g1
  cases g1
  generalize hr : D.map natR = rows at ho
  have hrl : rows.length = D.length := by rw [← hr, List.length_map]
  generalize hv0 : Value.slice (some ⟨b, off, none⟩) D.length cap = v0 at ho
  cases ho with
  | rd _ _ _ h1 => exact (h1 _ _ rfl).elim
  | nil => cases hv0
  | emp => rw [List.length_nil] at hrl; omega
  | sl _ _ b1 off1 cap1 _ cur e fr Fs f1 f2 f3 f4 f5 f6 f7 f8 f9 f10 f11 =>
    simp only [Value.slice.injEq, Option.some.injEq, Addr.mk.injEq] at hv0
    obtain ⟨⟨rfl, rfl, _⟩, _, rfl⟩ := hv0
    have hbw := (Array.getElem?_eq_some_iff.1 f2).1
    have hb' : (putRow encN w b off D'.toArray).heap[b]? = some (.cells (putCells encN off D'.toArray cur) e fr) := by
      simp [putRow, mapBlock, Array.getElem?_modify, f2, onCells]
    have hoth : ∀ k, k ≠ b → (putRow encN w b off D'.toArray).heap[k]? = w.heap[k]? := fun k hkb => by
      simp [putRow, mapBlock, Array.getElem?_modify, Ne.symm hkb]
    have hcs : (putCells encN off D'.toArray cur).size = cur.size := by simp [putCells]
    refine (h.set (w' := putRow encN w b off D'.toArray) (B := .ar 1 vk (D'.map natR)) (by unfold live; rw [hmk]; rfl) rfl rfl rfl (Kp.cell hoth f2 hb' hcs) (by simp [putRow, mapBlock]) (fun k hk => hoth k fun e => hk (e ▸ f1)) (fun k p i j v _ hs hp => (hal k p i j v hs hp).elim) (fun k p v seen _ hs hp => (hit k p v seen hs hp).elim) fun _ => ⟨_, hg, ?_⟩).1
    have hlen2 : (D'.map natR).length = rows.length := by rw [List.length_map, hlen, hrl]
    have hget : ∀ (i : Nat) (row : Row) (j : Nat) (x : AV), (D'.map natR)[i]? = some row → row[j]? = some x → ∃ s : Nat, (putCells encN off D'.toArray cur).getD (off + (i * 1 + j)) undef = .int .i64 s ∧ x = .sc (.int .i64 s) := by
      intro i row j x hi hj
      have hil : i < D'.length := by have := idx_lt hi; rw [List.length_map] at this; exact this
      rw [List.getElem?_map, List.getElem?_eq_getElem hil] at hi
      cases hi
      cases j with
      | succ j => simp [natR] at hj
      | zero =>
        cases hj
        refine ⟨_, ?_, rfl⟩
        have hc : off + i < cur.size := by omega
        simp [putCells, hc, hil, encN]
    rw [← hrl, ← hlen2]
    refine Own.sl _ 1 b off cap _ (putCells encN off D'.toArray cur) e fr (fun _ _ _ => False) f1 hb' (by unfold Thawed; rw [hcs]; exact f3) (by rw [hlen2]; exact f4) (by rw [hcs]; exact f5) f6 (fun _ _ _ h => h.elim) (fun _ _ _ _ _ h => h.elim) ?_ ?_ ?_
    · intro i row hi
      rw [List.getElem?_map] at hi
      cases hq : D'[i]? with
      | none => rw [hq] at hi; cases hi
      | some s => rw [hq] at hi; cases hi; rfl
    · intro i row j x hi hj
      obtain ⟨s, h1, rfl⟩ := hget i row j x hi hj
      rw [h1]; rfl
    · intro i row j x hi hj
      obtain ⟨s, h1, rfl⟩ := hget i row j x hi hj
      rw [h1]
      exact Own.rd _ _ _ (by intro z r h; cases h) (by intro cs h; cases h) (.sc _ rfl)
end
def encF (n : Nat) (k : _root_.Fin n) : Value := .int .i64 k.val
theorem putRow_F {n : Nat} [Inhabited (_root_.Fin n)] (w : Go.World) (b off : Nat) (l : List (_root_.Fin n)) : putRow (encF n) w b off l.toArray = putRow encN w b off (l.map (·.val)).toArray := by
  have : putCells (encF n) off l.toArray = putCells encN off (l.map (·.val)).toArray := by
    funext c
    unfold putCells
    refine congrArg (fun q => c.mapIdx q) ?_
    funext k x
    simp only [List.size_toArray, List.length_map]
    split
    · rename_i h
      have hk : k - off < l.length := by omega
      simp [encF, encN, getElem!_def, hk]
    · rfl
  unfold putRow
  rw [this]
end Go.Proofs.YtkkmgjhfjhcdmaaGreatDoor.Mx

namespace Go.Proofs.YtkkmgjhfjhcdmaaGreatDoor.Mx
open Go Go.RowKit Go.Proofs Go.Sort Go.Lib
noncomputable def siT : TypeInfo := (Tryz.prog.info? 128).get (by kernel_rfl)
noncomputable def siE : TypeInfo := (Tryz.prog.info? 3).get (by kernel_rfl)
theorem siK (n : Nat) (h2 : 2 ≤ n) : Lib.swapperK n siE 2 = 5 := by
  have a : siE.hasPointers = false := by kernel_rfl
  have b : siE.bytes = 8 := by kernel_rfl
  have c : (n == 0) = false := by simp; omega
  have d : (n == 1) = false := by simp; omega
  simp [Lib.swapperK, a, b, c, d]
theorem stable_small {n : Nat} [Inhabited (_root_.Fin n)] (lt : _root_.Fin n → _root_.Fin n → Bool) (lb : Array Value) (blk off c : Nat) (d : Array (_root_.Fin n)) (h2 : 2 ≤ d.size) (h20 : d.size ≤ 20) (w : Go.World)
    (hless : LessReads Tryz.prog 128 lb (encF n) lt blk off d.size w) (hH : Holds (encF n) w blk off d) (hblk : blk < w.heap.size) :
    Calls Tryz.prog 127 #[.iface 128 (.slice (some ⟨blk, off, none⟩) d.size c), .func (.func 128) #[] lb] w fun e w' =>
      e = .returned (.tuple #[]) ∧ ∃ m os, w' = grow (putRow (encF n) (Sort.ahead w m) blk off (Sort.insertionSort lt d 0 d.size)) os :=
  Any.sort_SliceStable_small Tryz.stableL 128 3 siT siE (by kernel_rfl) (by kernel_rfl) (by kernel_rfl) (by kernel_rfl) 2 (fun _ => by kernel_rfl) (by kernel_rfl) (fun _ => by kernel_rfl) (encF n) (fun _ => rfl) lt 128 lb
    (enters_of Tryz.func128 (by kernel_rfl) rfl) blk off c d h2 h20 186 (by rw [siK _ h2]; kernel_rfl) true
    (fun args W => run_callFunc_extern Tryz.func186 (by kernel_rfl) (by kernel_rfl) (by kernel_rfl) (e := Extern.ReflectliteSwapper.swap true) (by kernel_rfl) args W) w hless hH hblk
theorem stable_tiny (lb : Array Value) (p : Option Addr) (n c : Nat) (hn : n ≤ 1) (w : Go.World) :
    Calls Tryz.prog 127 #[.iface 128 (.slice p n c), .func (.func 128) #[] lb] w fun e w' => e = .returned (.tuple #[]) ∧ ∃ os, w' = grow w os := by
  match n, hn with
  | 0, hn => exact Any.sort_SliceStable_tiny Tryz.stableL 128 3 siT siE (by kernel_rfl) (by kernel_rfl) (by kernel_rfl) (by kernel_rfl) 2 (fun _ => by kernel_rfl) p 0 c hn 182 (by kernel_rfl) _ _ lb w
  | 1, hn => exact Any.sort_SliceStable_tiny Tryz.stableL 128 3 siT siE (by kernel_rfl) (by kernel_rfl) (by kernel_rfl) (by kernel_rfl) 2 (fun _ => by kernel_rfl) p 1 c hn 183 (by kernel_rfl) _ _ lb w
end Go.Proofs.YtkkmgjhfjhcdmaaGreatDoor.Mx

namespace Go.Proofs.YtkkmgjhfjhcdmaaGreatDoor.Mx
open Go Go.RowKit Go.Proofs Go.Sort
section
variable {w0 : Go.World} {M R : Nat → Prop} {γ : Gs} {φ : Fp} {tv : Tv} {sv : Sv} {a : Act} {w : Go.World}
theorem sortT_small {Q : List Peer} {D : List Nat} (h : D.length ≤ 1) : sortT Q D = D := by
  match D, h with
  | [], _ => rfl
  | [x], _ => rfl
theorem updS_same {m : Nat} {B : Blk} (h : sv m = some B) : updS sv m (some B) = sv := by
  funext n
  unfold updS
  split
  · rename_i e; rw [← e, h]
  · rfl
theorem pt_val {m b : Nat} {ok : Nat → Prop} {v : Value} (hg : γ m = some (.pointer (some ⟨b, 0, none⟩), 0)) (h : RepV w ok γ v (.pt m 0 0)) : v = .pointer (some ⟨b, 0, none⟩) := by
  obtain ⟨v0, z, h1, h2⟩ := h
  rw [hg] at h1
  cases h1
  exact h2.2
theorem own_at {ok F : Nat → Prop} {v0 : Value} {z : Nat} {rows : List Row} (h : Own w ok F v0 (.sl true z rows)) (h0 : 0 < rows.length) : ∃ b off cap cur e fr, v0 = .slice (some ⟨b, off, none⟩) rows.length cap ∧ F b ∧ w.heap[b]? = some (.cells cur e fr) ∧ Thawed cur fr ∧ rows.length ≤ cap ∧ off + cap * z ≤ cur.size ∧
    ∀ (i : Nat) (row : Row) (j : Nat) (k : Int), rows[i]? = some row → row[j]? = some (.sc (.int .i64 k)) → cur.getD (off + (i * z + j)) undef = .int .i64 k := by
  generalize hx : AV.sl true z rows = x at h
  cases h with
  | rd _ _ _ h1 => exact (h1 _ _ hx.symm).elim
  | nil => cases hx; simp at h0
  | emp => cases hx; simp at h0
  | sl _ _ b off cap _ cur e fr Fs f1 f2 f3 f4 f5 f6 f7 f8 f9 f10 f11 =>
    cases hx
    refine ⟨b, off, cap, cur, e, fr, rfl, f1, f2, f3, f4, f5, fun i row j k hi hj => ?_⟩
    have := own_rep (f11 i row j _ hi hj) (by intro z r h; cases h) (by intro cs h; cases h)
    generalize cur.getD (off + (i * z + j)) undef = u at this ⊢
    cases this
    rfl
  | pb => cases hx
theorem sort_core (h : Sim w0 M R γ φ tv sv a w) {m1 m5 mk mq vk vq : Nat} {cs : Row} {D : List Nat} {Q : List Peer} {v1 v5 v78 : Value}
    (h1 : RepV w (okOf w0 M R φ sv w) γ v1 (.pt m1 0 0)) (h5 : RepV w (okOf w0 M R φ sv w) γ v5 (.pt m5 0 0)) (h78 : RepV w (okOf w0 M R φ sv w) γ v78 (.ow mk 0 D.length))
    (hm1 : sv m1 = some (.bx cs)) (hcs : cs[7]? = some (.ow mq 0 Q.length)) (hm5 : sv m5 = some (.bx [.ow mk 0 D.length])) (hmk : sv mk = some (.ar 1 vk (D.map natR))) (hmq : sv mq = some (.ar 5 vq (Q.map (peerC true))))
    (ne1 : m1 ≠ mk) (ne5 : m5 ≠ mk) (neq : mq ≠ mk) (hD : ∀ k ∈ D, k < Q.length) (hDl : D.length ≤ 20) (hQl : Q.length ≤ 20)
    (hal : ∀ k p i j v, sv k = some (.sb p i j v) → p ≠ mk) (hit : ∀ k p v seen, sv k = some (.it p v seen) → p ≠ mk) :
    Calls Tryz.prog 127 #[.iface 128 v78, .func (.func 128) #[] #[v1, v5]] w fun e w' => e = .returned (.tuple #[]) ∧ Sim w0 M R γ φ tv (updS sv mk (some (.ar 1 vk ((sortT Q D).map natR)))) a w' := by
  obtain ⟨v0, z0, g78, s78⟩ := h78
  obtain ⟨u0, gk, ok⟩ := h.bk mk _ hmk
  rw [gk] at g78
  cases g78
  by_cases hs : D.length ≤ 1
  · have hp : ∃ p c, v78 = .slice p D.length c := by
      unfold Sub at s78
      split at s78
      · obtain ⟨e, _, e2⟩ := s78
        rw [e2]
        exact ⟨none, 0, e⟩
      · obtain ⟨o', c', e, _⟩ := s78
        exact ⟨_, _, e⟩
      · exact s78.elim
    obtain ⟨p, c, rfl⟩ := hp
    refine (stable_tiny #[v1, v5] p D.length c hs w).mono fun e w' hh => ?_
    obtain ⟨rfl, os, rfl⟩ := hh
    rw [sortT_small hs, updS_same hmk]
    exact ⟨rfl, sim_grow h 0 os⟩
  have hD2 : 2 ≤ D.length := by omega
  obtain ⟨b, off, cap, cur, e, fr, rfl, fb, hb, th, hc, hsz, hrow⟩ := own_at ok (by rw [List.length_map]; omega)
  rw [List.length_map] at gk s78 hc
  obtain ⟨o', c', rfl, hle, hnc, hoo⟩ := s78
  have ho' : o' = off := by
    rcases hoo with ⟨q, _⟩ | q
    · omega
    · omega
  subst ho'
  have hQ0 : 0 < Q.length := by
    obtain ⟨x, hx⟩ := ex_get (show 0 < D.length by omega)
    have := hD x (List.mem_of_getElem? hx)
    omega
  letI : Inhabited (_root_.Fin Q.length) := ⟨⟨0, hQ0⟩⟩
  obtain ⟨L, hL⟩ : ∃ L : List (_root_.Fin Q.length), L.map (·.val) = D := ⟨D.pmap (fun k h => ⟨k, h⟩) hD, by simp [List.map_pmap]⟩
  have hLl : L.length = D.length := by rw [← hL, List.length_map]
  have hLt : L.toArray.size = D.length := by rw [List.size_toArray]; exact hLl
  have hbw := (Array.getElem?_eq_some_iff.1 hb).1
  have hH : Holds (encF Q.length) w b o' L.toArray := by
    intro j hj
    rw [hLt] at hj
    have hjL : j < L.length := by omega
    refine ⟨?_, frozen_at hb th (by omega)⟩
    rw [cell_some hb (by omega)]
    have := hrow j (natR (L[j]).val) 0 (L[j]).val (by rw [← hL, List.getElem?_map, List.getElem?_map, List.getElem?_eq_getElem hjL]; rfl) rfl
    rw [Nat.mul_one, Nat.add_zero] at this
    rw [this]
    simp [encF, getElem!_def, hjL]
  obtain ⟨bf, curf, ef, frf, gf, pf, hbf, tf, lf, cf⟩ := h.bk m1 _ hm1
  have e1 := pt_val gf h1
  obtain ⟨bo, curo, eo, fro, go, po, hbo, to_, lo, co⟩ := h.bk m5 _ hm5
  have e5 := pt_val go h5
  subst e1 e5
  obtain ⟨⟨q0, zq, gq1, sq⟩, _⟩ := cf 7 _ hcs
  obtain ⟨uq, gq2, okq⟩ := h.bk mq _ hmq
  rw [gq2] at gq1
  cases gq1
  obtain ⟨bq, offq, capq, curq, eq, frq, rfl, fq, hbq, tq, hcq, hszq, hrowq⟩ := own_at okq (by rw [List.length_map]; omega)
  rw [List.length_map] at gq2 sq hcq
  obtain ⟨oq, cq, sqv, _, hnq, hooq⟩ := sq
  have hoq : oq = offq := by
    rcases hooq with ⟨q, _⟩ | q
    · omega
    · omega
  subst hoq
  obtain ⟨⟨k0, zk, gk2, sk⟩, _⟩ := co 0 _ rfl
  rw [gk] at gk2
  cases gk2
  obtain ⟨o5, c5, s5v, _, hn5, hoo5⟩ := sk
  have ho5 : o5 = o' := by
    rcases hoo5 with ⟨q, _⟩ | q
    · omega
    · omega
  subst ho5
  have lv : ∀ {m B}, sv m = some B → live sv m := fun q => by unfold live; rw [q]; rfl
  have nf : bf ≠ b := fun q => h.dj m1 mk (lv hm1) (lv hmk) ne1 bf pf (q ▸ fb)
  have no : bo ≠ b := fun q => h.dj m5 mk (lv hm5) (lv hmk) ne5 bo po (q ▸ fb)
  have nq : bq ≠ b := fun q => h.dj mq mk (lv hmq) (lv hmk) neq bq fq (q ▸ fb)
  have lf7 : 7 < curf.size := by have := (List.getElem?_eq_some_iff.1 hcs).1; omega
  have lo0 : 0 < curo.size := by simp at lo; omega
  have hless : LessReads Tryz.prog 128 #[.pointer (some ⟨bf, 0, none⟩), .pointer (some ⟨bo, 0, none⟩)] (encF Q.length) (fun a b => ltP Q a.val b.val) b o5 L.toArray.size w := by
    intro m os dk hsk i j hi hj
    have oth : ∀ x i : Nat, x < w.heap.size → x ≠ b → (sortWorld (encF Q.length) w b o5 m dk os).cell? ⟨x, i, none⟩ = w.cell? ⟨x, i, none⟩ := fun x i hx hne => by
      unfold sortWorld
      rw [cell?_grow _ _ _ (by simpa [putRow, mapBlock, Sort.ahead] using hx), cell?_putRow_other _ _ _ _ _ _ (Or.inl hne)]
      rfl
    refine less_tick bf bo b o5 c5 bq oq Q.length cq L.toArray.size _ (fun t => (dk[t]!).val) (lastN Q) ?_ ?_ (fun t ht => ?_) (fun t _ => (dk[t]!).isLt) (fun k hk => ?_) i j hi hj (by rw [hLt]; omega) (by omega)
    · rw [oth _ _ (Array.getElem?_eq_some_iff.1 hbf).1 nf, cell_some hbf lf7, sqv]
    · rw [oth _ _ (Array.getElem?_eq_some_iff.1 hbo).1 no, cell_some hbo lo0, s5v, hLt]
    · unfold sortWorld
      rw [cell?_grow _ _ _ (by simpa [putRow, mapBlock, Sort.ahead] using hbw)]
      exact cell?_putRow _ _ b o5 L.toArray dk (holds_ahead _ _ _ _ _ _ hH) hsk t (by omega)
    · obtain ⟨p, hp⟩ := ex_get hk
      rw [oth _ _ (Array.getElem?_eq_some_iff.1 hbq).1 nq, cell_some hbq (by omega)]
      have := hrowq k (peerC true p) 2 p.last (by rw [List.getElem?_map, hp]; rfl) rfl
      rw [← Nat.add_assoc] at this
      rw [this]
      unfold lastN
      rw [hp]
  have hst := stable_small (fun a b => ltP Q a.val b.val) #[.pointer (some ⟨bf, 0, none⟩), .pointer (some ⟨bo, 0, none⟩)] b o5 c' L.toArray (by omega) (by omega) w hless hH hbw
  rw [hLt] at hst
  refine hst.mono fun e' w' hh => ?_
  obtain ⟨rfl, m, os, rfl⟩ := hh
  obtain ⟨l', hl1, hl2⟩ := sort_list Q (fun k : _root_.Fin Q.length => k.val) L
  rw [hLl] at hl1
  rw [hl1, putRow_F, hl2, hL]
  exact ⟨rfl, sim_grow (sim_sorted h hmk (sortT_len Q D) (by omega) hal hit gk) m os⟩
end
end Go.Proofs.YtkkmgjhfjhcdmaaGreatDoor.Mx

namespace Go.Proofs.YtkkmgjhfjhcdmaaGreatDoor.Mx
open Go Go.RowKit Go.Proofs Go.Sort
theorem wpOps_cons {P : Program} {all : Array Oper} {Q : Exit → Act → Go.World → Prop} {i : Nat} {r : List Nat} {a : Act} {w : Go.World} {o : Oper} (ho : all[i]? = some o) (hg : o.guard = none) (h : o.wp P a w (wpOps P all Q r) Q) : wpOps P all Q (i :: r) a w := by
  simp only [wpOps, ho]
  rw [if_pos (by simp [Region.wanted, hg])]
  exact .inl h
theorem updT_no {tv : Tv} {t : Nat} (h : tv t = .no) : updT tv (some t) .no = tv := by
  funext k
  unfold updT
  split
  · rename_i e
    cases e
    exact h.symm
  · rfl
theorem sort_region {id : Nat} {ps0 ps1 ps2 ps3 : String} {af0 af1 af2 af3 : Array Edge} {s : St} {m1 m5 mk mq vk vq : Nat} {cs : Row} {D : List Nat} {Q : List Peer}
    (h1 : s.tv 1 = .pt m1 0 0) (h5 : s.tv 5 = .pt m5 0 0) (hno : ∀ t, 78 ≤ t → t ≤ 81 → s.tv t = .no)
    (hm1 : s.sv m1 = some (.bx cs)) (hcs : cs[7]? = some (.ow mq 0 Q.length)) (hm5 : s.sv m5 = some (.bx [.ow mk 0 D.length])) (hmk : s.sv mk = some (.ar 1 vk (D.map natR))) (hmq : s.sv mq = some (.ar 5 vq (Q.map (peerC true))))
    (ne1 : m1 ≠ mk) (ne5 : m5 ≠ mk) (neq : mq ≠ mk) (hD : ∀ k ∈ D, k < Q.length) (hDl : D.length ≤ 20) (hQl : Q.length ≤ 20)
    (hal : ∀ k p i j v, s.sv k = some (.sb p i j v) → p ≠ mk) (hit : ∀ k p v seen, s.sv k = some (.it p v seen) → p ≠ mk) :
    RegOk Tryz.prog id #[⟨some 78, .load 128 (.tmp 5), 128, ps0, af0, none⟩, ⟨some 79, .makeInterface 128 (.tmp 78), 20, ps1, af1, none⟩, ⟨some 80, .makeFunc (.func 128) #[] #[.tmp 1, .tmp 5], 149, ps2, af2, none⟩,
      ⟨some 81, .call { callee := .value (.func 127), args := #[.tmp 79, .tmp 80], argTypes := #[20, 149] }, 0, ps3, af3, none⟩] s ⟨s.tm, supd s.sto mk (some (.ar 1 vk ((sortT Q D).map natR))), s.ctr + 256⟩ := by
  intro w0 M R args np N a w ha hd hI
  obtain ⟨γ, φ, hS, hg, hargs, hsz⟩ := hI
  refine wp_region ?_
  show wpOps _ _ _ [0, 1, 2, 3] a w
  simp only [List.mem_cons, List.not_mem_nil, or_false, forall_eq_or_imp, forall_eq, opDst, decide_eq_true_eq] at hd
  obtain ⟨d0, d1, d2, d3⟩ := hd
  refine wpOps_cons (o := ⟨some 78, .load 128 (.tmp 5), 128, ps0, af0, none⟩) rfl rfl ?_
  refine OpStep.of_res (aop_ok (b := s.ctr) (d := ⟨.ow mk 0 D.length, []⟩) tOk hS (fun n h1 _ => hg n h1) ?_) _ _ fun v w' γ' φ' g1 g2 g3 => ?_
  · have e5 : opv s.tv (.tmp 5) = .pt m5 0 0 := h5
    show aop T0 (.load 128 (.tmp 5)) 128 s.ctr s.tv s.sv = _
    simp only [aop, e5, hm5]
    rfl
  have g2 : Sim w0 M R γ' φ' s.tv s.sv a w' := g2
  have g3 : RepV w' (okOf w0 M R φ' s.sv w') γ' v (.ow mk 0 D.length) := g3
  have rno : ∀ (w : Go.World) (ok : Nat → Prop) (γ : Gs) (v : Value), RepV w ok γ v .no := fun _ _ _ _ => .no _
  have s1 := g2.put (d := some 78) (fun t ht => by cases ht; rw [hsz]; exact d0.2) (rno _ _ _ v)
  rw [updT_no (hno 78 (by omega) (by omega))] at s1
  have z1 : (a.put (some 78) v).tmps.size = N := (put_size ..).trans hsz
  have ev1 : ∀ t, (a.put (some 78) v).tmps.getD t undef = if some 78 = some t then v else a.tmps.getD t undef := fun t => put_getD a (some 78) v (fun t ht => by cases ht; rw [hsz]; exact d0.2) t
  have hargs1 : ∀ (i : Nat) (u : Value), args[i]? = some u → (a.put (some 78) v).tmps.getD i undef = u := fun i u hi => by
    have := idx_lt hi
    rw [ev1, if_neg (by intro q; cases q; omega)]
    exact hargs i u hi
  show wpOps _ _ _ [1, 2, 3] (a.put (some 78) v) w'
  generalize a.put (some 78) v = a1 at *
  refine wpOps_cons (o := ⟨some 79, .makeInterface 128 (.tmp 78), 20, ps1, af1, none⟩) rfl rfl ?_
  have x1 : (execOp a1.eval (⟨some 79, .makeInterface 128 (.tmp 78), 20, ps1, af1, none⟩ : Oper)).run Tryz.prog w' = .ok (.value (.iface 128 v)) w' := by
    have e : a1.eval (.tmp 78) = v := by
      show a1.tmps.getD 78 undef = v
      rw [ev1, if_pos rfl]
    have hu : Tryz.prog.underlying 128 = some (.slice 3) := by kernel_rfl
    simp [execOp, Instr.makeInterface, e, run_underlying hu]
  show Oper.upon _ _ _ _ _ _
  rw [x1, Oper.upon_value]
  have s2 := s1.put (d := some 79) (fun t ht => by cases ht; rw [z1]; exact d1.2) (rno _ _ _ (.iface 128 v))
  rw [updT_no (hno 79 (by omega) (by omega))] at s2
  have z2 : (a1.put (some 79) (.iface 128 v)).tmps.size = N := (put_size ..).trans z1
  have ev2 : ∀ t, (a1.put (some 79) (.iface 128 v)).tmps.getD t undef = if some 79 = some t then .iface 128 v else a1.tmps.getD t undef := fun t => put_getD a1 (some 79) _ (fun t ht => by cases ht; rw [z1]; exact d1.2) t
  have hargs2 : ∀ (i : Nat) (u : Value), args[i]? = some u → (a1.put (some 79) (.iface 128 v)).tmps.getD i undef = u := fun i u hi => by
    have := idx_lt hi
    rw [ev2, if_neg (by intro q; cases q; omega)]
    exact hargs1 i u hi
  show wpOps _ _ _ [2, 3] (a1.put (some 79) (.iface 128 v)) w'
  generalize a1.put (some 79) (.iface 128 v) = a2 at *
  refine wpOps_cons (o := ⟨some 80, .makeFunc (.func 128) #[] #[.tmp 1, .tmp 5], 149, ps2, af2, none⟩) rfl rfl ?_
  have x2 : (execOp a2.eval (⟨some 80, .makeFunc (.func 128) #[] #[.tmp 1, .tmp 5], 149, ps2, af2, none⟩ : Oper)).run Tryz.prog w' = .ok (.value (.func (.func 128) #[] #[a2.tmps.getD 1 undef, a2.tmps.getD 5 undef])) w' := by
    simp [execOp, Instr.makeFunc, Act.eval]
  show Oper.upon _ _ _ _ _ _
  rw [x2, Oper.upon_value]
  obtain ⟨fv, hfv⟩ : ∃ fv, fv = Value.func (.func 128) #[] #[a2.tmps.getD 1 undef, a2.tmps.getD 5 undef] := ⟨_, rfl⟩
  rw [← hfv]
  have s3 := s2.put (d := some 80) (fun t ht => by cases ht; rw [z2]; exact d2.2) (rno _ _ _ fv)
  rw [updT_no (hno 80 (by omega) (by omega))] at s3
  have z3 : (a2.put (some 80) fv).tmps.size = N := (put_size ..).trans z2
  have ev3 : ∀ t, (a2.put (some 80) fv).tmps.getD t undef = if some 80 = some t then fv else a2.tmps.getD t undef := fun t => put_getD a2 (some 80) _ (fun t ht => by cases ht; rw [z2]; exact d2.2) t
  have hargs3 : ∀ (i : Nat) (u : Value), args[i]? = some u → (a2.put (some 80) fv).tmps.getD i undef = u := fun i u hi => by
    have := idx_lt hi
    rw [ev3, if_neg (by intro q; cases q; omega)]
    exact hargs2 i u hi
  show wpOps _ _ _ [3] (a2.put (some 80) fv) w'
  generalize a2.put (some 80) fv = a3 at *
  refine wpOps_cons (o := ⟨some 81, .call { callee := .value (.func 127), args := #[.tmp 79, .tmp 80], argTypes := #[20, 149] }, 0, ps3, af3, none⟩) rfl rfl ?_
  have r1 := s2.tm 1
  have r5 := s2.tm 5
  rw [h1] at r1
  rw [h5] at r5
  have x3 : (execOp a3.eval (⟨some 81, .call { callee := .value (.func 127), args := #[.tmp 79, .tmp 80], argTypes := #[20, 149] }, 0, ps3, af3, none⟩ : Oper)).run Tryz.prog w' = .ok (.enter 127 #[.iface 128 v, fv]) w' := by
    have e1 : a3.tmps.getD 79 undef = .iface 128 v := by rw [ev3, if_neg (by intro q; cases q), ev2, if_pos rfl]
    have e2 : a3.tmps.getD 80 undef = fv := by rw [ev3, if_pos rfl]
    have hE := enters_of (P := Tryz.prog) Tryz.func127 (by kernel_rfl) rfl #[.iface 128 v, fv] w'
    rw [← hE, ← e1, ← e2]
    simp [execOp, resolve, Deferred.ofValue, invoke, Act.eval]
  show Oper.upon _ _ _ _ _ _
  rw [x3, Oper.upon_enter, hfv]
  refine (sort_core s3 r1 r5 g3 hm1 hcs hm5 hmk hmq ne1 ne5 neq hD hDl hQl hal hit).mono fun e w'' hh => ?_
  obtain ⟨rfl, s4⟩ := hh
  have s5 := s4.put (d := some 81) (fun t ht => by cases ht; rw [z3]; exact d3.2) (rno _ _ _ (.tuple #[]))
  rw [updT_no (hno 81 (by omega) (by omega))] at s5
  have z4 : (a3.put (some 81) (.tuple #[])).tmps.size = N := (put_size ..).trans z3
  refine ⟨rfl, γ', φ', ?_, fun n hn => ?_, fun i u hi => ?_, z4⟩
  · show Sim w0 M R γ' φ' s.tv (sget (supd s.sto mk (some (.ar 1 vk ((sortT Q D).map natR))))) _ _
    rw [sget_supd]
    exact s5
  · have hn : s.ctr + 256 ≤ n := hn
    rw [g1 n (by omega)]
    exact hg n (by omega)
  · have := idx_lt hi
    rw [put_getD a3 (some 81) _ (fun t ht => by cases ht; rw [z3]; exact d3.2), if_neg (by intro q; cases q; omega)]
    exact hargs3 i u hi
end Go.Proofs.YtkkmgjhfjhcdmaaGreatDoor.Mx

namespace Go.Proofs.YtkkmgjhfjhcdmaaGreatDoor.Mx
open Go Go.RowKit Go.Proofs
theorem rF66_0 {p q : Prop} (k : q) (h : p = q := by conv => lhs; simp -dsimp (disch := first | omega | (simp only [zF, wr_id, List.getElem?_set_self, List.set_set, set_peer, LR] <;> omega) | fail) only [push_cast, zF, wr_id, List.getElem?_set_self, List.set_set, set_peer, simprocAttr, -Nat.reduceSubDiff]) : p := h.mpr k
theorem rF66_1 {p q : Prop} (k : q) (h : p = q := by conv => lhs; simp -dsimp (disch := first | omega | (simp only [zF, pMapSet, kkey, wr_id, List.getElem?_set_self, List.set_set, set_peer, LR] <;> omega) | fail) only [push_cast, zF, pMapSet, kkey, wr_id, List.getElem?_set_self, List.set_set, set_peer, simprocAttr, -Nat.reduceSubDiff]) : p := h.mpr k
theorem rF66_2 {p q : Prop} (k : q) (h : p = q := by conv => lhs; simp -dsimp (disch := first | omega | (simp only [zF, pLookup, entries, kkey, mset_get, LR] <;> omega) | fail) only [push_cast, zF, pLookup, entries, kkey, mset_get, simprocAttr, -Nat.reduceSubDiff]) : p := h.mpr k
theorem rF66_3 {p q : Prop} (k : q) (h : p = q := by conv => lhs; simp -dsimp (disch := first | omega | (simp only [zF, pLookup, pMapSet, entries, kkey, mset_get, List.getElem?_set_self, List.set_set, set_peer, LR] <;> omega) | fail) only [push_cast, zF, pLookup, pMapSet, entries, kkey, mset_get, List.getElem?_set_self, List.set_set, set_peer, simprocAttr, -Nat.reduceSubDiff]) : p := h.mpr k
theorem rF66_4 {p q : Prop} (k : q) (h : p = q := by conv => lhs; simp -dsimp (disch := first | omega | (simp only [zF, wr_id, decT_zero, asksT, freeT, List.take_zero, List.filter_nil, List.map_nil, mset, List.foldl_nil, List.range_zero, LR] <;> omega) | fail) only [push_cast, zF, wr_id, decT_zero, asksT, freeT, List.take_zero, List.filter_nil, List.map_nil, mset, List.foldl_nil, List.range_zero, simprocAttr, -Nat.reduceSubDiff]) : p := h.mpr k
theorem rF66_5 {p q : Prop} (k : q) (h : p = q := by conv => lhs; simp -dsimp (disch := first | omega | (simp only [zF, wr_id, List.length_append, List.map_append, List.length_singleton, List.map_cons, List.map_nil, LR] <;> omega) | fail) only [push_cast, zF, wr_id, List.length_append, List.map_append, List.length_singleton, List.map_cons, List.map_nil, simprocAttr, -Nat.reduceSubDiff]) : p := h.mpr k
theorem rF66_6 {p q : Prop} (k : q) (h : p = q := by conv => lhs; simp -dsimp (disch := first | omega | (simp only [zF, wr_id, List.length_append, List.map_append, List.length_singleton, List.map_cons, List.map_nil, List.length_set, LR] <;> omega) | fail) only [push_cast, zF, wr_id, List.length_append, List.map_append, List.length_singleton, List.map_cons, List.map_nil, List.length_set, simprocAttr, -Nat.reduceSubDiff]) : p := h.mpr k
theorem rk_ex {P : Program} {E : Env} {id : Nat} {all : Array Oper} {Q : Po} {s : St} (m v : Nat) (rows' : List Row)
    (h : RegOk P id all (keep (E.kp id) (frz (E.fz id) s)) ⟨(keep (E.kp id) (frz (E.fz id) s)).tm, supd (keep (E.kp id) (frz (E.fz id) s)).sto m (some (.ar 1 v rows')), (keep (E.kp id) (frz (E.fz id) s)).ctr + 256⟩)
    (k : Q .normal ⟨(keep (E.kp id) (frz (E.fz id) s)).tm, supd (keep (E.kp id) (frz (E.fz id) s)).sto m (some (.ar 1 v rows')), (keep (E.kp id) (frz (E.fz id) s)).ctr + 256⟩) : RK P E id all Q s (true : Bool) := ⟨_, h, k⟩
def E90 : Env := { T := T0, kp := look [(0, [0]), (1, [1, 2]), (2, [1, 2]), (3, [1, 2]), (4, [1, 2]), (5, [1, 2, 4]), (6, [1, 2, 4, 5]), (7, [1, 2, 4, 5, 27, 28]), (8, [1, 2, 4, 5, 27, 28]), (9, [1, 2, 4, 5, 6, 27, 28]), (10, [1, 2, 4, 5, 6, 7, 27, 28]), (11, [1, 2, 4, 5, 6, 7, 27, 28]), (12, [1, 2, 4, 5, 6, 7, 27, 28]), (13, [1, 2, 4, 5, 6, 7, 27, 28]), (14, [1, 2, 4, 5, 6, 7, 27, 28]), (15, [1, 2, 4, 5, 7, 27, 28]), (16, [1, 2, 4, 5, 6, 7, 27, 28]), (17, [1, 2, 4, 5, 6, 27, 28]), (18, [1, 2, 4, 5, 27, 28]), (19, [1, 2, 4, 5]), (20, [1, 2]), (21, [1, 2, 4, 5]), (22, [1, 2, 4, 5]), (23, [1, 2, 4, 5, 8]), (24, [1, 2, 4, 5, 8, 9]), (25, [1, 2, 4, 8, 9, 87, 88, 89]), (26, [1, 2, 4, 8, 9, 87, 88, 89]), (27, [1, 2, 4, 8, 9, 11, 87, 88, 89]), (28, [1, 2, 4, 8, 9, 11, 12, 87, 88, 89]), (29, [1, 2, 4, 8, 9, 11, 12, 87, 88, 89, 97, 98, 99]), (30, [1, 2, 4, 8, 9, 11, 12, 87, 88, 89, 97, 98, 99]), (31, [1, 2, 4, 8, 9, 11, 12, 14, 87, 88, 89, 97, 98, 99]), (32, [1, 2, 4, 8, 9, 11, 12, 14, 15, 87, 88, 89, 97, 98, 99]), (33, [1, 2, 4, 8, 9, 11, 12, 14, 87, 88, 89]), (34, [1, 2, 4, 8, 9, 11, 12, 14, 87, 88, 89]), (35, [1, 2, 4, 8, 9, 11, 14, 87, 88, 89]), (36, [1, 2, 4, 8, 9, 11, 12, 87, 88, 89, 97, 98, 99]), (37, [1, 2, 4, 8, 9, 87, 88, 89]), (38, [1, 2, 9])], dp := look2 [(34, [[], [], [], [], [], [4], [0, 3], [0, 3, 6], [0, 3, 6, 7], [0, 1, 3, 6, 7, 8], [0, 1, 3, 6, 7, 8, 9], [0, 1, 3, 6, 7, 8, 9, 10], [0, 1, 2, 3, 4, 5, 6, 7, 8, 9, 10, 11], [0, 1, 2, 3, 4, 5, 6, 7, 8, 9, 10, 11, 12], [0, 1, 2, 3, 4, 5, 6, 7, 8, 9, 10, 11, 12, 13]])], ex := lookB [21] }
attribute [local push_cast] E90
set_option maxRecDepth 20000 in
set_option maxHeartbeats 4000000 in
theorem implTick (f : Fetch) (hf : okFetch f) (hv : validF f = true) : Does Tryz.prog 90 [.ag (fetchC true f)] (.tu [.ag (fetchC true (tickF f).1), .sl true 5 ((tickF f).2.map (messageC true))], []) := by
  obtain ⟨M, hM⟩ : ∃ M, M = (tickF f).1 := ⟨_, rfl⟩
  obtain ⟨O, hO⟩ : ∃ O, O = (tickF f).2 := ⟨_, rfl⟩
  rw [← hM, ← hO]
  have hQl := hf.2.2.1
  have hIl := hf.2.1.1.1
  have hPl := hf.2.1.2.1
  have hnow := now_of hv
  unfold tickF at hM hO
  refine does_of (E := E90) (rs := [.cell 2 53, .tmp 3]) (lent := []) tOk rfl Tryz.func90 rfl (by decide) rfl rfl (Nat.le_of_ble_eq_true rfl) (Nat.le_of_ble_eq_true rfl) ?_
  by_cases c1 : 1000000 ≤ f.now
  · rw [if_pos c1] at hM hO
    replace hM := hM.symm
    subst hM hO
    have c2 : f.now = 1000000 := by omega
    (have zF := c2; (refine go0 ?_ <;> repeat (refine dr ?_; refine go0 ?_)) <;> first | exact nop | clear zF)
  rw [if_neg c1] at hM hO
  have c2 : ¬ f.now = 1000000 := by omega
  (have zF := c2; (refine go0 ?_ <;> repeat (refine dr ?_; refine go0 ?_)) <;> first | exact nop | clear zF)
  refine loop_ind (α := Nat) (fun i => i ≤ f.Q.length)
    (fun i => ⟨[(1, .pt 1 0 0), (2, .pt 5 0 0), (4, .mv 9), (5, .pt 10 0 0), (27, .sc (.int .i64 f.Q.length)), (28, .sc (.int .i64 i))],
      [(1, .bx [.sc (.string f.nm), .sc (.int .i64 (f.now + 1)), .sc (.bool f.full), .sc (.int .i64 f.st.w), .sc (.int .i64 f.st.r), .ow 2 0 f.st.I.length, .ow 3 0 f.st.P.length, .ow 4 0 f.Q.length]), (2, .ar 2 0 (f.st.I.map (itemC true))), (3, .ar 1 0 (f.st.P.map strR)), (4, .ar 5 0 ((decT f.Q i).map (peerC true))),
       (5, .bx [.sc (.string ⟨#[]⟩), .sc (.int .i64 0), .sc (.bool false), .sc (.int .i64 0), .sc (.int .i64 0), .ow 6 0 0, .ow 7 0 0, .ow 8 0 0]), (6, .ar 2 0 []), (7, .ar 1 0 []), (8, .ar 5 0 []),
       (9, .mp 0 (mset (asksT (f.Q.map decP) i))), (10, .bx [.ow 11 0 (freeT (f.Q.map decP) i).length]), (11, .ar 1 0 ((freeT (f.Q.map decP) i).map natR))], 12⟩) (fun i => f.Q.length - i) 0 (Nat.zero_le _) ?_ ?_
  · ((refine rF66_4 ?_) <;> try exact nop)
  intro i hi ih
  by_cases h : i < f.Q.length
  · obtain ⟨p, hp⟩ := ex_get h
    have hD := decT_get hp
    have hl := decT_len f.Q i
    obtain ⟨q1, q2, q3, q4, q5, q6⟩ := peer_up (peer_of hv hp)
    have hN := decT_step hp
    have hS := decT_same hp
    have hl2 := decT_len f.Q (i + 1)
    have ha := asks_step (decQ_get hp)
    have hfr := free_step (decQ_get hp)
    have hfl := free_len (f.Q.map decP) i
    have hk := mok_kok (mset_mok (asksT (f.Q.map decP) i))
    have hmp := mset_app (asksT (f.Q.map decP) i)
    generalize freeT (f.Q.map decP) i = R at *
    generalize asksT (f.Q.map decP) i = A at *
    obtain ⟨E, hE⟩ : ∃ E, E = mset A := ⟨_, rfl⟩
    rw [← hE] at hk hmp ⊢
    generalize decT f.Q i = D at *
    by_cases w0 : 0 < p.wait
    rotate_left
    · have e : decP p = p := by unfold decP; rw [if_neg w0]
      have w1 : p.wait = 0 := by omega
      replace hS := hS e
      rw [e] at ha hfr
      rw [if_neg w0] at ha
      rw [← hS] at hl2
      by_cases l0 : p.lies < 3
      · rw [if_pos (by unfold freeP; simp [l0, w1])] at hfr
        (have zF := an h (an hD (an w1 l0)); (refine go0 ?_ <;> repeat (refine dr ?_; refine go0 ?_)) <;> first | exact nop | clear zF)
        refine ih (i + 1) _ (by omega) h ?_
        rw [← hS, ha, hfr, ← hE]
        ((refine rF66_5 ?_) <;> try exact nop)
      · rw [if_neg (by unfold freeP; simp [l0])] at hfr
        (have zF := an h (an hD (an w1 l0)); (refine go0 ?_ <;> repeat (refine dr ?_; refine go0 ?_)) <;> first | exact nop | clear zF)
        refine ih (i + 1) _ (by omega) h ?_
        rw [← hS, ha, hfr, ← hE]
        ((refine rF66_5 ?_) <;> try exact nop)
    clear hS
    by_cases w1 : p.wait - 1 = 0
    · have e : decP p = ⟨p.lies, 0, p.last, ⟨#[]⟩, p.N⟩ := by unfold decP; rw [if_pos w0, if_pos w1, w1]
      rw [e] at hN ha hfr
      rw [if_neg (by show ¬ (0 : Int) < 0; omega)] at ha
      by_cases l0 : p.lies < 3
      · rw [if_pos (by unfold freeP; simp [l0])] at hfr
        (have zF := an h (an hD (an w0 (an w1 l0))); (refine rF66_0 ?_ <;> repeat (refine dr ?_; refine rF66_0 ?_)) <;> first | exact nop | clear zF)
        refine ih (i + 1) _ (by omega) h ?_
        rw [← hN, ha, hfr, ← hE]
        ((refine rF66_5 ?_) <;> try exact nop)
      · rw [if_neg (by unfold freeP; simp [l0])] at hfr
        (have zF := an h (an hD (an w0 (an w1 l0))); (refine rF66_0 ?_ <;> repeat (refine dr ?_; refine rF66_0 ?_)) <;> first | exact nop | clear zF)
        refine ih (i + 1) _ (by omega) h ?_
        rw [← hN, ha, hfr, ← hE]
        ((refine rF66_5 ?_) <;> try exact nop)
    · have e : decP p = ⟨p.lies, p.wait - 1, p.last, p.ask, p.N⟩ := by unfold decP; rw [if_pos w0, if_neg w1]
      have w2 : 0 < p.wait - 1 := by omega
      rw [e] at hN ha hfr
      rw [if_pos w2] at ha
      rw [if_neg (by unfold freeP; simp; omega)] at hfr
      (have zF := an h (an hD (an w0 (an w1 (an w2 hk.1)))); (refine rF66_1 ?_ <;> repeat (refine dr ?_; refine rF66_1 ?_)) <;> first | exact nop | clear zF)
      refine ih (i + 1) _ (by omega) h ?_
      rw [← hN, ha, hfr, hmp]
      ((refine go1 ?_) <;> try exact nop)
  · have hi : i = f.Q.length := by omega
    subst hi
    rw [decT_all]
    have hl : (f.Q.map decP).length = f.Q.length := List.length_map ..
    cases c3 : f.full with
    | true =>
      rw [if_pos c3] at hM hO
      subst hM hO
      (have zF := an h c3; (refine go0 ?_ <;> repeat (refine dr ?_; refine go0 ?_)) <;> first | exact nop | clear zF)
    | false =>
      rw [if_neg (by rw [c3]; simp)] at hM hO
      have hLk := lacksOk f.st f.nm hf.1
      have hL0 := lacks_ne hv
      have hask := fun x => asks_asked (Q := f.Q.map decP) x
      rw [hl] at hask
      obtain ⟨D, hD⟩ : ∃ D, D = sortT (f.Q.map decP) (freeT (f.Q.map decP) f.Q.length) := ⟨_, rfl⟩
      have hD1 : D.length ≤ 5 := by rw [hD, sortT_len]; have := free_len (f.Q.map decP) f.Q.length; omega
      have hD2 : D.Nodup := by rw [hD]; exact sort_nodup (free_up _ _)
      have hD3 : ∀ k ∈ D, ∃ p, (f.Q.map decP)[k]? = some p ∧ p.wait = 0 := by rw [hD]; exact fun k hk => sort_free hl.symm hk
      have hrun := runT_sort (f.now + 1) (lacksF f.st f.nm) (f.Q.map decP)
      rw [hl, ← hD] at hrun
      rw [hrun] at hM hO
      clear hrun
      have hasc : ∀ p ∈ f.Q.map decP, ascF f.st.w none p.N = true ∧ p.N.length ≤ 376 := fun p hp => by
        obtain ⟨q, hq, rfl⟩ := List.mem_map.1 hp
        obtain ⟨i, hi⟩ := List.mem_iff_getElem?.1 hq
        obtain ⟨_, _, _, q4, _, q6⟩ := peer_up (peer_of hv hi)
        rw [decP_N]
        exact ⟨q6, q4⟩
      have hdq := decQ_ok hf.2.2
      (have zF := an h c3; (refine go0 ?_ <;> repeat (refine dr ?_; refine go0 ?_)) <;> first | exact nop | clear zF)
      refine rk_ex 11 0 (D.map natR) ?_ ?_
      · have hl9 : f.Q.length = (f.Q.map decP).length := (List.length_map _).symm
        have h5 : f.Q.length ≤ 5 := by unfold validF at hv; simp [inB] at hv; omega
        ((refine go0 ?_) <;> try exact nop)
        rw [hD, hl9]
        rw [hl9] at h5
        generalize f.Q.map decP = Q at *
        have hfl := free_len Q Q.length
        exact sort_region (m1 := 1) (m5 := 10) (mk := 11) (mq := 4) (vk := 0) (vq := 0) rfl rfl (fun t h1 h2 => by
            rcases (show t = 78 ∨ t = 79 ∨ t = 80 ∨ t = 81 by omega) with rfl | rfl | rfl | rfl <;> rfl) rfl rfl rfl rfl rfl (by decide) (by decide) (by decide)
          (fun k hk => List.mem_range.1 (List.mem_filter.1 hk).1) (by omega) (by omega) (fun k p i j v h => by have := sget_mem h; simp at this) (fun k p v seen h => by have := sget_mem h; simp at this)
      obtain ⟨L, hL⟩ : ∃ L, L = lacksF f.st f.nm := ⟨_, rfl⟩
      have hla := implLacks f.st f.nm hf.2.1
      rw [← hL] at hM hO hLk hL0 hla
      obtain ⟨A, hA⟩ : ∃ A, A = asksT (f.Q.map decP) f.Q.length := ⟨_, rfl⟩
      rw [← hA] at hask ⊢
      have hD0 : (freeT (f.Q.map decP) f.Q.length).length = D.length := by rw [hD, sortT_len]
      rw [hD0]
      obtain ⟨Q, hQ⟩ : ∃ Q, Q = f.Q.map decP := ⟨_, rfl⟩
      rw [← hQ] at hM hO hl hask hD3 hasc hdq ⊢
      clear hD hD0 hQ hA hL ih
      have hLl := hLk.1
      ((refine go0 ?_ <;> repeat (refine dr ?_; refine go0 ?_)) <;> try exact nop)
      refine callC hla ?_
      (have zF := h; (refine go0 ?_ <;> repeat (refine dr ?_; refine go0 ?_)) <;> first | exact nop | clear zF)
      obtain ⟨R, hR⟩ : ∃ R, R = D.foldl (ask1 (f.now + 1) L) (Q, []) := ⟨_, rfl⟩
      rw [← hR] at hM hO
      refine loop_ind (α := Nat × List Str × List Peer × List Message)
        (fun q => q.1 ≤ D.length ∧ q.2.2.1.length = f.Q.length ∧ okL okPeer q.2.2.1 ∧ (∀ p ∈ q.2.2.1, ascF f.st.w none p.N = true ∧ p.N.length ≤ 376) ∧ q.2.2.2.length ≤ q.1 ∧ (∀ x, inL q.2.1 x = askedB q.2.2.1 x) ∧ (∀ k ∈ D.drop q.1, ∃ p, q.2.2.1[k]? = some p ∧ p.wait = 0) ∧ (D.drop q.1).foldl (ask1 (f.now + 1) L) q.2.2 = R)
        (fun q => ⟨[(1, .pt 1 0 0), (2, .pt 5 0 0), (4, .mv 9), (8, .ow 10 0 L.length), (9, .ow 11 0 q.2.2.2.length), (87, .ow 12 0 D.length), (88, .sc (.int .i64 D.length)), (89, .sc (.int .i64 q.1))],
          [(1, .bx [.sc (.string f.nm), .sc (.int .i64 (f.now + 1)), .sc (.bool false), .sc (.int .i64 f.st.w), .sc (.int .i64 f.st.r), .ow 2 0 f.st.I.length, .ow 3 0 f.st.P.length, .ow 4 0 q.2.2.1.length]), (2, .ar 2 0 (f.st.I.map (itemC true))), (3, .ar 1 0 (f.st.P.map strR)), (4, .ar 5 0 (q.2.2.1.map (peerC true))),
           (5, .bx [.sc (.string ⟨#[]⟩), .sc (.int .i64 0), .sc (.bool false), .sc (.int .i64 0), .sc (.int .i64 0), .ow 6 0 0, .ow 7 0 0, .ow 8 0 0]), (6, .ar 2 0 []), (7, .ar 1 0 []), (8, .ar 5 0 []),
           (9, .mp 0 (mset q.2.1)), (10, .ar 1 0 (L.map strR)), (11, .ar 5 0 (q.2.2.2.map (messageC true))), (12, .ar 1 0 (D.map natR))], 13⟩) (fun q => D.length - q.1) (0, A, Q, []) ⟨Nat.zero_le _, hl, hdq, hasc, Nat.le_refl _, hask, by rw [List.drop_zero]; exact hD3, by rw [List.drop_zero]; exact hR.symm⟩ ?_ ?_
      · (have zF := hl; (refine go1 ?_) <;> first | exact nop | clear zF)
      clear hask hD3 hasc hdq hR hl
      rintro ⟨j, A, Q, W⟩ ⟨i1, i2, i3, i4, i5, i6, i7, i8⟩ ih
      simp only at i1 i2 i3 i4 i5 i6 i7 i8
      by_cases g : j < D.length
      rotate_left
      · rw [List.drop_eq_nil_of_le (by omega), List.foldl_nil] at i8
        subst i8
        subst hM hO
        (have zF := an g c3; (refine go0 ?_ <;> repeat (refine dr ?_; refine go0 ?_)) <;> first | exact nop | clear zF)
      obtain ⟨k, hk⟩ := ex_get g
      rw [drop_step hk, List.foldl_cons] at i8
      rw [drop_step hk] at i7
      obtain ⟨p, hp, hw⟩ := i7 k (by simp)
      have hkl := (List.getElem?_eq_some_iff.1 hp).1
      obtain ⟨a1, a2⟩ := i4 p (List.mem_of_getElem? hp)
      have hm := mok_kok (mset_mok A)
      have hm2 := hm.2
      simp only [plain] at hm2
      (have zF := an g (an hk hp); (refine go0 ?_ <;> repeat (refine dr ?_; refine go0 ?_)) <;> first | exact nop | clear zF)
      obtain ⟨u, hu⟩ : ∃ u, u = pickL Q p L := ⟨_, rfl⟩
      have hst := ask1_at (now := f.now + 1) (L := L) (W := W) hp
      rw [← hu] at hst
      rw [hst] at i8
      have hkD : k ∉ D.drop (j + 1) := by
        have := hD2.sublist (List.drop_sublist j D)
        rw [drop_step hk] at this
        exact (List.nodup_cons.1 this).1
      refine loop_ind (α := Nat) (fun y => y ≤ L.length ∧ pickL Q p (L.drop y) = u)
        (fun y => ⟨[(1, .pt 1 0 0), (2, .pt 5 0 0), (4, .mv 9), (8, .ow 10 0 L.length), (9, .ow 11 0 W.length), (11, .sc (.int .i64 k)), (12, .pt 4 k 0), (87, .ow 12 0 D.length), (88, .sc (.int .i64 D.length)), (89, .sc (.int .i64 j)), (97, .ow 10 0 L.length), (98, .sc (.int .i64 L.length)), (99, .sc (.int .i64 y))],
          [(1, .bx [.sc (.string f.nm), .sc (.int .i64 (f.now + 1)), .sc (.bool false), .sc (.int .i64 f.st.w), .sc (.int .i64 f.st.r), .ow 2 0 f.st.I.length, .ow 3 0 f.st.P.length, .ow 4 0 Q.length]), (2, .ar 2 0 (f.st.I.map (itemC true))), (3, .ar 1 0 (f.st.P.map strR)), (4, .ar 5 0 (Q.map (peerC true))),
           (5, .bx [.sc (.string ⟨#[]⟩), .sc (.int .i64 0), .sc (.bool false), .sc (.int .i64 0), .sc (.int .i64 0), .ow 6 0 0, .ow 7 0 0, .ow 8 0 0]), (6, .ar 2 0 []), (7, .ar 1 0 []), (8, .ar 5 0 []),
           (9, .mp 0 (mset A)), (10, .ar 1 0 (L.map strR)), (11, .ar 5 0 (W.map (messageC true))), (12, .ar 1 0 (D.map natR))], 13⟩) (fun y => L.length - y) 0 ⟨Nat.zero_le _, by rw [List.drop_zero, hu]⟩ ?_ ?_
      · ((refine go1 ?_) <;> try exact nop)
      rintro y ⟨hy, hq⟩ ih2
      by_cases h2 : y < L.length
      rotate_left
      · rw [List.drop_eq_nil_of_le (by omega), pickL] at hq
        rw [if_pos hq.symm] at i8
        (have zF := h2; (refine go0 ?_ <;> repeat (refine dr ?_; refine go0 ?_)) <;> first | exact nop | clear zF)
        refine ih (j + 1, A, Q, W) _ (by show D.length - (j + 1) < D.length - j; omega) ⟨g, i2, i3, i4, by show W.length ≤ j + 1; omega, i6, fun z hz => i7 z (by simp [hz]), i8⟩ ?_
        ((refine go1 ?_) <;> try exact nop)
      obtain ⟨x, hx⟩ := ex_get h2
      rw [drop_step hx, pickL] at hq
      have hpar := asc_parts a1 x
      have hhas := hasS_inL a1 x
      have hrk := rk_le p.N x
      (have zF := an h2 (an hx hp); (refine go0 ?_ <;> repeat (refine dr ?_; refine go0 ?_)) <;> first | exact nop | clear zF)
      refine callC (searchStrings p.N x (by omega) hpar) ?_
      cases d1 : inL A x with
      | true =>
        have d2 := i6 x
        rw [d1] at d2
        rw [if_neg (by rw [← d2]; simp)] at hq
        (have zF := an h2 (an hx (an hp (an hm.1 (an hm2 d1)))); (refine rF66_2 ?_ <;> repeat (refine dr ?_; refine rF66_2 ?_)) <;> first | exact nop | clear zF)
        refine ih2 (y + 1) _ (by omega) ⟨h2, hq⟩ ?_
        ((refine go1 ?_) <;> try exact nop)
      | false =>
      have d2 := i6 x
      rw [d1] at d2
      have take : u = x → hasS p.N x = false → inL p.N x = false ∧ askedB Q x = false → True := fun _ _ _ => trivial
      clear take
      have no : hasS p.N x = true → pickL Q p (L.drop (y + 1)) = u := fun e => by
        rw [if_neg (by rw [← hhas, e]; simp)] at hq
        exact hq
      have yes : hasS p.N x = false → u = x := fun e => by
        rw [if_pos ⟨by rw [← hhas]; exact e, d2.symm⟩] at hq
        exact hq.symm
      have hx0 := hL0 x (List.mem_of_getElem? hx)
      have hmp := mset_app A x
      have fin : u = x → (j + 1 ≤ D.length ∧ (Q.set k ⟨p.lies, 5, f.now + 1, x, p.N⟩).length = f.Q.length ∧ okL okPeer (Q.set k ⟨p.lies, 5, f.now + 1, x, p.N⟩) ∧ (∀ p' ∈ Q.set k ⟨p.lies, 5, f.now + 1, x, p.N⟩, ascF f.st.w none p'.N = true ∧ p'.N.length ≤ 376) ∧ (W ++ [(⟨0, k + 1, x, false, ⟨#[]⟩⟩ : Message)]).length ≤ j + 1 ∧ (∀ z, inL (A ++ [x]) z = askedB (Q.set k ⟨p.lies, 5, f.now + 1, x, p.N⟩) z) ∧ (∀ z ∈ D.drop (j + 1), ∃ p', (Q.set k ⟨p.lies, 5, f.now + 1, x, p.N⟩)[z]? = some p' ∧ p'.wait = 0) ∧ (D.drop (j + 1)).foldl (ask1 (f.now + 1) L) (Q.set k ⟨p.lies, 5, f.now + 1, x, p.N⟩, W ++ [(⟨0, k + 1, x, false, ⟨#[]⟩⟩ : Message)]) = R) := fun hux =>
        ⟨g, by show (Q.set _ _).length = _; rw [List.length_set]; exact i2,
          ⟨by show (Q.set _ _).length ≤ _; rw [List.length_set]; exact i3.1, fun a ha => by
            rcases List.mem_or_eq_of_mem_set ha with q | q
            · exact i3.2 a q
            · rw [q]; exact ⟨hLk.2 x (List.mem_of_getElem? hx), (i3.2 p (List.mem_of_getElem? hp)).2⟩⟩,
          fun a ha => by
            rcases List.mem_or_eq_of_mem_set ha with q | q
            · exact i4 a q
            · rw [q]; exact ⟨a1, a2⟩,
          by show (W ++ _).length ≤ j + 1; rw [List.length_append, List.length_singleton]; exact Nat.succ_le_succ i5,
          fun z => by
            show inL (A ++ [x]) z = askedB (Q.set _ _) z
            rw [asked_set hp hw, ← i6 z, inL_app]
            simp [inL],
          fun z hz => by
            show ∃ p', (Q.set _ _)[z]? = some p' ∧ _
            have : k ≠ z := fun e => hkD (e ▸ hz)
            rw [List.getElem?_set_ne this]
            exact i7 z (by simp [hz]),
          by
            rw [if_neg (by rw [hux]; exact hx0), hux] at i8
            exact i8⟩
      by_cases hr : rk p.N x < p.N.length
      · obtain ⟨z, hz⟩ := ex_get hr
        by_cases e : z = x
        · have hh : hasS p.N x = true := by unfold hasS; rw [hz, e]; simp
          (have zF := an h2 (an hx (an hp (an hm.1 (an hm2 (an d1 (an hr (an hz e))))))); (refine rF66_2 ?_ <;> repeat (refine dr ?_; refine rF66_2 ?_)) <;> first | exact nop | clear zF)
          refine ih2 (y + 1) _ (by omega) ⟨h2, no hh⟩ ?_
          ((refine go1 ?_) <;> try exact nop)
        · have hh : hasS p.N x = false := by unfold hasS; rw [hz]; simp [e]
          (have zF := an h2 (an hx (an hp (an hm.1 (an hm2 (an d1 (an hr (an hz e))))))); (refine rF66_3 ?_ <;> repeat (refine dr ?_; refine rF66_3 ?_)) <;> first | exact nop | clear zF)
          refine ih (j + 1, A ++ [x], Q.set k ⟨p.lies, 5, f.now + 1, x, p.N⟩, W ++ [⟨0, k + 1, x, false, ⟨#[]⟩⟩]) _ (by show D.length - (j + 1) < D.length - j; omega) (fin (yes hh)) ?_
          rw [hmp]
          ((refine rF66_6 ?_) <;> try exact nop)
      · have hh : hasS p.N x = false := by unfold hasS; rw [List.getElem?_eq_none (by omega)]; simp
        (have zF := an h2 (an hx (an hp (an hm.1 (an hm2 (an d1 hr))))); (refine rF66_3 ?_ <;> repeat (refine dr ?_; refine rF66_3 ?_)) <;> first | exact nop | clear zF)
        refine ih (j + 1, A ++ [x], Q.set k ⟨p.lies, 5, f.now + 1, x, p.N⟩, W ++ [⟨0, k + 1, x, false, ⟨#[]⟩⟩]) _ (by show D.length - (j + 1) < D.length - j; omega) (fin (yes hh)) ?_
        rw [hmp]
        ((refine rF66_6 ?_) <;> try exact nop)
end Go.Proofs.YtkkmgjhfjhcdmaaGreatDoor.Mx

namespace Go.Proofs.YtkkmgjhfjhcdmaaGreatDoor.Mx
open Go Go.RowKit Go.Proofs
def E33 : Env := { T := T0, kp := look [(0, [0]), (1, [1, 2]), (2, [2]), (3, [1, 2])], md := look3 [(3, 2, [2])] }
attribute [local push_cast] E33
set_option maxRecDepth 20000 in
set_option maxHeartbeats 2000000 in
theorem implFetchTick (f : Fetch) (hf : okFetch f) : Does Tryz.prog 33 [.ag (fetchC false f)] (.tu [.ag (fetchC true (ftickF f).1), .sl true 5 ((ftickF f).2.map (messageC true))], []) := by
  refine does_of (E := E33) (rs := [.cell 2 53, .tmp 3]) (lent := []) tOk rfl Tryz.func33 rfl (by decide) rfl rfl (Nat.le_of_ble_eq_true rfl) (Nat.le_of_ble_eq_true rfl) ?_
  obtain ⟨M, hM⟩ : ∃ M, M = (ftickF f).1 := ⟨_, rfl⟩
  obtain ⟨O, hO⟩ : ∃ O, O = (ftickF f).2 := ⟨_, rfl⟩
  rw [← hM, ← hO]
  unfold ftickF at hM hO
  have hQl := hf.2.2.1
  have hIl := hf.2.1.1.1
  have hPl := hf.2.1.2.1
  ((refine go0 ?_ <;> repeat (refine dr ?_; refine go0 ?_)) <;> try exact nop)
  refine callC (implValidFetch f hf) ?_
  cases hv : validF f with
  | false =>
    rw [if_neg (by rw [hv]; simp)] at hM hO
    subst hM hO
    ((refine go0 ?_ <;> repeat (refine dr ?_; refine go0 ?_)) <;> try exact nop)
    rfl
  | true =>
  rw [if_pos hv] at hM hO
  ((refine go0 ?_ <;> repeat (refine dr ?_; refine go0 ?_)) <;> try exact nop)
  refine callC (copyFetch f hf) ?_
  ((refine go0 ?_ <;> repeat (refine dr ?_; refine go0 ?_)) <;> try exact nop)
  refine callC (implTick f hf hv) ?_
  rw [← hM, ← hO]
  ((refine go0 ?_ <;> repeat (refine dr ?_; refine go0 ?_)) <;> try exact nop)
end Go.Proofs.YtkkmgjhfjhcdmaaGreatDoor.Mx

namespace Go.Proofs.YtkkmgjhfjhcdmaaGreatDoor.Mx
open Go Go.RowKit Go.Proofs
theorem rLFnFetch_0 {p q : Prop} (k : q) (h : p = q := by conv => lhs; simp -dsimp (disch := first | omega | (simp only [zF, wr_id, eqs, LR] <;> omega) | fail) only [push_cast, zF, wr_id, eqs, simprocAttr, -Nat.reduceSubDiff]) : p := h.mpr k
theorem ftick_okB {f : Fetch} (hf : okFetch f) : okFetch (ftickF f).1 ∧ okL okMessage (ftickF f).2 := by
  cases hv : validF f with
  | true => exact ftick_ok hf (validF_up hv).2.2.2.1.2
  | false => unfold ftickF; rw [if_neg (by rw [hv]; simp)]; exact ⟨emFok, Nat.zero_le _, fun a h => by cases h⟩
def E7 : Env := { T := T0, kp := look [(0, [0]), (1, [0]), (2, []), (3, [0]), (4, [3, 4]), (5, [3, 4, 5]), (6, [3, 4, 5, 6, 7]), (7, [3, 5, 6, 7, 8]), (8, [3, 5, 6, 7, 8, 9, 10]), (9, []), (10, [3, 5, 6, 7]), (11, [3, 5, 7]), (12, [5, 6, 7]), (13, [5, 6, 7, 11]), (14, [5, 6, 7, 11, 12]), (15, [5, 6, 7, 11, 12]), (16, [5, 6, 7, 11, 12]), (17, [5, 6, 7, 11, 12, 13]), (18, []), (19, [5, 6, 7, 11, 12]), (20, [5, 6, 7, 11, 12, 14]), (21, [5, 6, 7, 11, 12, 14]), (22, [5, 6, 7, 11, 12, 14]), (23, []), (24, [5, 6])], dp := look2 [(16, [[], [0], [], [], [2, 3], [2, 3, 4], [2, 3, 4, 5], [2, 3, 4, 5, 6], [0, 1, 2, 3, 4, 5, 6, 7], [0, 1, 2, 3, 4, 5, 6, 7, 8], [], [0, 1, 2, 3, 4, 5, 6, 7, 8, 9, 10]]), (17, [[], [0], [0, 1], [0, 1, 2], [0, 1, 2, 3], [0, 1, 2, 3], [0, 1, 2, 3], [0, 1, 2, 3, 5, 6], [0, 1, 2, 3, 5, 6, 7], [0, 1, 2, 3, 5, 6, 7, 8], [0, 1, 2, 3, 4, 5, 6, 7, 8, 9], [0, 1, 2, 3, 4, 5, 6, 7, 8, 9, 10], [0, 1, 2, 3, 4, 5, 6, 7, 8, 9, 10, 11], [0, 1, 2, 3, 4, 5, 6, 7, 8, 9, 10, 11, 12], [0, 1, 2, 3, 4, 5, 6, 7, 8, 9, 10, 11, 12, 13], [0, 1, 2, 3, 4, 5, 6, 7, 8, 9, 10, 11, 12, 13, 14], [0, 1, 2, 3, 4, 5, 6, 7, 8, 9, 10, 11, 12, 13], [0, 1, 2, 3, 4, 5, 6, 7, 8, 9, 10, 11, 12, 13], [0, 1, 2, 3, 4, 5, 6, 7, 8, 9, 10, 11, 12, 13, 16, 17], [0, 1, 2, 3, 4, 5, 6, 7, 8, 9, 10, 11, 12, 13, 16, 17, 18], [0, 1, 2, 3, 4, 5, 6, 7, 8, 9, 10, 11, 12, 13, 16, 17, 18, 19], [0, 1, 2, 3, 4, 5, 6, 7, 8, 9, 10, 11, 12, 13, 14, 15, 16, 17, 18, 19, 20], [0, 1, 2, 3, 4, 5, 6, 7, 8, 9, 10, 11, 12, 13, 14, 15, 16, 17, 18, 19, 20, 21], [0, 1, 2, 3, 4, 5, 6, 7, 8, 9, 10, 11, 12, 13, 14, 15, 16, 17, 18, 19, 20, 21, 22], [0, 1, 2, 3, 4, 5, 6, 7, 8, 9, 10, 11, 12, 13, 14, 15, 16, 17, 18, 19, 20, 21, 22, 23], [0, 1, 2, 3, 4, 5, 6, 7, 8, 9, 10, 11, 12, 13, 14, 15, 16, 17, 18, 19, 20, 21, 22, 23, 24], [0, 1, 2, 3, 4, 5, 6, 7, 8, 9, 10, 11, 12, 13, 14, 15, 16, 17, 18, 19, 20, 21, 22, 23], [0, 1, 2, 3, 4, 5, 6, 7, 8, 9, 10, 11, 12, 13, 14, 15, 16, 17, 18, 19, 20, 21, 22, 23], [0, 1, 2, 3, 4, 5, 6, 7, 8, 9, 10, 11, 12, 13, 14, 15, 16, 17, 18, 19, 20, 21, 22, 23, 26, 27], [0, 1, 2, 3, 4, 5, 6, 7, 8, 9, 10, 11, 12, 13, 14, 15, 16, 17, 18, 19, 20, 21, 22, 23, 26, 27, 28], [0, 1, 2, 3, 4, 5, 6, 7, 8, 9, 10, 11, 12, 13, 14, 15, 16, 17, 18, 19, 20, 21, 22, 23, 26, 27, 28, 29], [0, 1, 2, 3, 4, 5, 6, 7, 8, 9, 10, 11, 12, 13, 14, 15, 16, 17, 18, 19, 20, 21, 22, 23, 24, 25, 26, 27, 28, 29, 30], [0, 1, 2, 3, 4, 5, 6, 7, 8, 9, 10, 11, 12, 13, 14, 15, 16, 17, 18, 19, 20, 21, 22, 23, 24, 25, 26, 27, 28, 29, 30, 31]]), (22, [[], [], [0, 1], [0, 1, 2], [0, 1, 2, 3], [], [], [5, 6], [5, 6, 7], [5, 6, 7, 8], [0, 1, 2, 3, 4, 5, 6, 7, 8, 9], [0, 1, 2, 3, 4, 5, 6, 7, 8, 9, 10], [0, 1, 2, 3, 4, 5, 6, 7, 8, 9, 10, 11], [0, 1, 2, 3, 4, 5, 6, 7, 8, 9, 10, 11], [0, 1, 2, 3, 4, 5, 6, 7, 8, 9, 10, 11, 12, 13], [0, 1, 2, 3, 4, 5, 6, 7, 8, 9, 10, 11, 12, 13, 14], [0, 1, 2, 3, 4, 5, 6, 7, 8, 9, 10, 11, 12, 13, 14, 15], [0, 1, 2, 3, 4, 5, 6, 7, 8, 9, 10, 11], [0, 1, 2, 3, 4, 5, 6, 7, 8, 9, 10, 11], [0, 1, 2, 3, 4, 5, 6, 7, 8, 9, 10, 11, 17, 18], [0, 1, 2, 3, 4, 5, 6, 7, 8, 9, 10, 11, 17, 18, 19], [0, 1, 2, 3, 4, 5, 6, 7, 8, 9, 10, 11, 17, 18, 19, 20], [0, 1, 2, 3, 4, 5, 6, 7, 8, 9, 10, 11, 12, 13, 14, 15, 16, 17, 18, 19, 20, 21], [0, 1, 2, 3, 4, 5, 6, 7, 8, 9, 10, 11, 12, 13, 14, 15, 16, 17, 18, 19, 20, 21, 22]])] }
attribute [local push_cast] E7
set_option maxRecDepth 20000 in
set_option maxHeartbeats 8000000 in
theorem fnFetch (c : List Int) (hcl : c.length ≤ 9223372036854775807) (hc : ∀ x ∈ c, 0 ≤ x ∧ x ≤ 255) : Does Tryz.prog 7 [.sl false 1 (c.map numR)] (.sc (.bool true), []) := by
  refine does_of (E := E7) (rs := [.tmp 2]) (lent := []) tOk rfl Tryz.func7 rfl (by decide) rfl rfl (Nat.le_of_ble_eq_true rfl) (Nat.le_of_ble_eq_true rfl) ?_
  by_cases hb1 : 1048576 < c.length
  · (have zF := hb1; (refine go0 ?_ <;> repeat (refine dr ?_; refine go0 ?_)) <;> first | exact nop | clear zF)
  (have zF := hb1; (refine go0 ?_ <;> repeat (refine dr ?_; refine go0 ?_)) <;> first | exact nop | clear zF)
  refine some_call (drawFetchTake c (by omega) hc) ?_
  rintro _ ⟨f, m, rfl, hf, hm⟩
  have xo := ftake_ok hf hm
  have d1 := implFetchTake f m hf hm
  have d2 := specFetchTake f m hf hm
  have fv : validF f = true → validF (ftakeF f m) = true := fun h => by rw [ftake_of m h]; exact (take_valid m h).1
  have fe : validF f = false → ftakeF f m = emF := fun h => by unfold ftakeF; rw [if_neg (by rw [h]; simp)]
  generalize ftakeF f m = x at *
  have yo := ftick_okB xo
  have d3 := implFetchTick x xo
  have d4 := specFetchTick x xo
  have tf : validF x = true → validF (ftickF x).1 = true ∧ TkI x.st.w (ftickF x).1.now (lacksF x.st x.nm) x.Q.length [] ((ftickF x).1.Q, (ftickF x).2) := fun h => by
    rw [ftick_of h]
    obtain ⟨a, _, _, _, _, b⟩ := tick_facts h
    exact ⟨a, b⟩
  have te : validF x = false → ftickF x = (emF, []) := fun h => by unfold ftickF; rw [if_neg (by rw [h]; simp)]
  generalize ftickF x = R at *
  obtain ⟨y, O⟩ := R
  simp only at yo d3 d4 tf te
  obtain ⟨x1, ⟨⟨x2, _⟩, ⟨x3, _⟩⟩, ⟨x4, _⟩⟩ := id xo
  obtain ⟨⟨y1, ⟨⟨y2, _⟩, ⟨y3, _⟩⟩, ⟨y4, _⟩⟩, y5, _⟩ := id yo
  ((refine go0 ?_ <;> repeat (refine dr ?_; refine go0 ?_)) <;> try exact nop)
  refine callC d1 ?_
  ((refine go0 ?_ <;> repeat (refine dr ?_; refine go0 ?_)) <;> try exact nop)
  refine callC d3 ?_
  ((refine go0 ?_ <;> repeat (refine dr ?_; refine go0 ?_)) <;> try exact nop)
  refine callC d2 ?_
  ((refine go0 ?_ <;> repeat (refine dr ?_; refine go0 ?_)) <;> try exact nop)
  refine callC d4 ?_
  ((refine go0 ?_ <;> repeat (refine dr ?_; refine go0 ?_)) <;> try exact nop)
  refine callC (wFetch x xo) ?_
  ((refine go0 ?_ <;> repeat (refine dr ?_; refine go0 ?_)) <;> try exact nop)
  refine callC (wFetch y yo.1) ?_
  ((refine go0 ?_ <;> repeat (refine dr ?_; refine go0 ?_)) <;> try exact nop)
  refine callC (wMessages O yo.2.1) ?_
  ((refine go0 ?_ <;> repeat (refine dr ?_; refine go0 ?_)) <;> try exact nop)
  refine callC (specValidFetch f hf) ?_
  clear d1 d2 d3 d4
  cases hv : validF f with
  | false =>
    have hx := fe hv
    have hy := te (by rw [hx]; rfl)
    cases hy
    subst hx
    have h0 : emF.Q.length = 0 := rfl
    (have zF := h0; (refine go0 ?_ <;> repeat (refine dr ?_; refine go0 ?_)) <;> first | exact nop | clear zF)
    refine callC (implValidFetch f hf) ?_
    (have zF := hv; (refine go0 ?_ <;> repeat (refine dr ?_; refine go0 ?_)) <;> first | exact nop | clear zF)
  | true =>
  have xv := fv hv
  obtain ⟨yv, tk⟩ := tf xv
  have hL := lacksOk x.st x.nm xo.1
  ((refine go0 ?_ <;> repeat (refine dr ?_; refine go0 ?_)) <;> try exact nop)
  refine callC (implLacks x.st x.nm xo.2.1) ?_
  generalize lacksF x.st x.nm = L at *
  have hLl := hL.1
  ((refine go0 ?_ <;> repeat (refine dr ?_; refine go0 ?_)) <;> try exact nop)
  refine loop_ind (α := Nat) (fun i => i ≤ O.length)
    (fun i => ⟨[(5, .pt 1 0 0), (6, .pt 5 0 0), (7, .ow 9 0 O.length), (11, .ow 10 0 L.length), (12, .sc (.int .i64 i))],
      [(1, .bx [.sc (.string x.nm), .sc (.int .i64 x.now), .sc (.bool x.full), .sc (.int .i64 x.st.w), .sc (.int .i64 x.st.r), .ow 2 0 x.st.I.length, .ow 3 0 x.st.P.length, .ow 4 0 x.Q.length]), (2, .ar 2 0 (x.st.I.map (itemC true))), (3, .ar 1 0 (x.st.P.map strR)), (4, .ar 5 0 (x.Q.map (peerC true))),
       (5, .bx [.sc (.string y.nm), .sc (.int .i64 y.now), .sc (.bool y.full), .sc (.int .i64 y.st.w), .sc (.int .i64 y.st.r), .ow 6 0 y.st.I.length, .ow 7 0 y.st.P.length, .ow 8 0 y.Q.length]), (6, .ar 2 0 (y.st.I.map (itemC true))), (7, .ar 1 0 (y.st.P.map strR)), (8, .ar 5 0 (y.Q.map (peerC true))),
       (9, .ar 5 0 (O.map (messageC true))), (10, .ar 1 0 (L.map strR))], 11⟩) (fun i => O.length - i) 0 (Nat.zero_le _) ?_ ?_
  · ((refine go0 ?_) <;> try exact nop)
  intro i hi ih
  by_cases h : i < O.length
  rotate_left
  · (have zF := h; (refine go0 ?_ <;> repeat (refine dr ?_; refine go0 ?_)) <;> first | exact nop | clear zF)
    refine callC (implValidFetch x xo) ?_
    (have zF := xv; (refine go0 ?_ <;> repeat (refine dr ?_; refine go0 ?_)) <;> first | exact nop | clear zF)
    refine callC (implValidFetch y yo.1) ?_
    (have zF := yv; (refine go0 ?_ <;> repeat (refine dr ?_; refine go0 ?_)) <;> first | exact nop | clear zF)
  obtain ⟨a, ha⟩ := ex_get h
  obtain ⟨_, _, _, q4, k, p, q5, _, q6, q7, q8, q9, q10⟩ := tk.ms a (List.mem_of_getElem? ha)
  simp only at q6
  have hkl := (List.getElem?_eq_some_iff.1 q6).1
  have ek : a.to - 1 = (k : Int) := by omega
  have hpb := peerB_up (tk.ok p (List.mem_of_getElem? q6))
  have q11 : ¬ 3 ≤ p.lies := by omega
  (have zF := an h (an ha (an q6 (an ek q11))); (refine go1 ?_ <;> repeat (refine dr ?_; refine go1 ?_)) <;> first | exact nop | clear zF)
  refine callC (wIn L a.sum (by omega)) ?_
  have hin : inL L a.sum = true := (inL_iff ..).2 q4
  (have zF := an h (an ha (an q6 (an ek hin))); (refine go1 ?_ <;> repeat (refine dr ?_; refine go1 ?_)) <;> first | exact nop | clear zF)
  refine callC (wIn p.N a.sum (by omega)) ?_
  (have zF := an h (an ha (an q6 (an ek (an q8 q9)))); (refine rLFnFetch_0 ?_ <;> repeat (refine dr ?_; refine rLFnFetch_0 ?_)) <;> first | exact nop | clear zF)
  refine loop_ind (α := Nat) (fun j => j ≤ i)
    (fun j => ⟨[(5, .pt 1 0 0), (6, .pt 5 0 0), (7, .ow 9 0 O.length), (11, .ow 10 0 L.length), (12, .sc (.int .i64 i)), (14, .sc (.int .i64 j))],
      [(1, .bx [.sc (.string x.nm), .sc (.int .i64 x.now), .sc (.bool x.full), .sc (.int .i64 x.st.w), .sc (.int .i64 x.st.r), .ow 2 0 x.st.I.length, .ow 3 0 x.st.P.length, .ow 4 0 x.Q.length]), (2, .ar 2 0 (x.st.I.map (itemC true))), (3, .ar 1 0 (x.st.P.map strR)), (4, .ar 5 0 (x.Q.map (peerC true))),
       (5, .bx [.sc (.string y.nm), .sc (.int .i64 y.now), .sc (.bool y.full), .sc (.int .i64 y.st.w), .sc (.int .i64 y.st.r), .ow 6 0 y.st.I.length, .ow 7 0 y.st.P.length, .ow 8 0 y.Q.length]), (6, .ar 2 0 (y.st.I.map (itemC true))), (7, .ar 1 0 (y.st.P.map strR)), (8, .ar 5 0 (y.Q.map (peerC true))),
       (9, .ar 5 0 (O.map (messageC true))), (10, .ar 1 0 (L.map strR))], 11⟩) (fun j => i - j) 0 (Nat.zero_le _) ?_ ?_
  · ((refine go0 ?_) <;> try exact nop)
  intro j hj ih2
  by_cases hji : j < i
  · obtain ⟨b, hb⟩ := ex_get (show j < O.length by omega)
    obtain ⟨n1, n2⟩ : b.sum ≠ a.sum ∧ b.to ≠ a.to := by
      have := List.pairwise_iff_getElem.1 tk.pw j i (by show j < O.length; omega) h hji
      have e1 := (List.getElem?_eq_some_iff.1 hb).2
      have e2 := (List.getElem?_eq_some_iff.1 ha).2
      rw [e1, e2] at this
      exact this
    (have zF := an hji (an ha (an hb (an n1 n2))); (refine go0 ?_ <;> repeat (refine dr ?_; refine go0 ?_)) <;> first | exact nop | clear zF)
    refine ih2 (j + 1) _ (by omega) hji ?_
    ((refine go1 ?_) <;> try exact nop)
  · (have zF := hji; (refine go0 ?_ <;> repeat (refine dr ?_; refine go0 ?_)) <;> first | exact nop | clear zF)
    refine ih (i + 1) _ (by omega) h ?_
    ((refine go1 ?_) <;> try exact nop)
end Go.Proofs.YtkkmgjhfjhcdmaaGreatDoor.Mx

/- A machine over values for Go functions, proved sound, and functions run on it: texts V6, B4, V8, B2, F6, F8, F13, V9, VC, S2, F24, VA. -/
import Derived.Test.YtkpgdbicefahjaaShC
import Derived.Shelf.SlSorted.Search
import Derived.Test.YtkpgdbicefahjaaFnDifferXag
import Derived.Test.YtkpgdbicefahjaaFnDifferXah
/- Sets that differ: what is there, notes. -/
namespace Go.Proofs.Ytkpgdbicefahjaa.Mx
set_option linter.all false
open Go Go.RowKit
def inT (fr to x : Str) : Bool := !lts x fr && (decide (to = em) || lts x to)
def thr (l : List Str) (fr to : Str) : List Str := l.filter (inT fr to)
def minusS (a b : List Str) : List Str := a.filter fun x => !inL b x
def jb (l : List Str) : List UInt8 := l.flatMap bt
def mixS (l : List Str) (w : Int) : Str := sumS ⟨(jb l).toArray⟩ w
def setB (l : List Str) (w : Int) : Bool := inB w 1 8 && decide (l.length ≤ 500) && ascF w none l
def emN : Note := ⟨em, em, 0, em, false, []⟩
def tellN (l : List Str) (fr to : Str) (w : Int) : Note := if setB l w = true then ⟨fr, to, (thr l fr to).length, mixS (thr l fr to) w, false, []⟩ else emN
/-- is the note a right one? -/
def noteB (l : List Str) (n : Note) (w : Int) : Bool :=
  setB l w && (decide (n.to = em) || lts n.fr n.to) && decide (0 ≤ n.n) &&
  (bif n.has then decide (n.n = 0) && decide (n.mix = em) && setB n.S w && decide ((thr n.S n.fr n.to).length = n.S.length) else decide (n.S.length = 0))
def hearN (l : List Str) (n : Note) (w : Int) : List Note × List Str × List Str :=
  if noteB l n w = false then ([], [], []) else
  if n.has = true then ([], minusS n.S (thr l n.fr n.to), minusS (thr l n.fr n.to) n.S) else
  if (thr l n.fr n.to).length = n.n ∧ mixS (thr l n.fr n.to) w = n.mix then ([], [], []) else
  if n.n ≤ 4 ∨ (thr l n.fr n.to).length ≤ 4 then ([⟨n.fr, n.to, 0, em, true, thr l n.fr n.to⟩], [], []) else
  ([tellN l n.fr ((thr l n.fr n.to).getD ((thr l n.fr n.to).length / 2) em) w, tellN l ((thr l n.fr n.to).getD ((thr l n.fr n.to).length / 2) em) n.to w], [], [])
theorem filter_step {α : Type} {p : α → Bool} {l : List α} {i : Nat} {x : α} (h : l[i]? = some x) : (l.take (i + 1)).filter p = (l.take i).filter p ++ (bif p x then [x] else []) := by
  rw [take_step h, List.filter_append]
  cases hp : p x <;> simp [hp]
theorem thr_len (l : List Str) (fr to : Str) : (thr l fr to).length ≤ l.length := List.length_filter_le ..
theorem jb_app (a b : List Str) : jb (a ++ b) = jb a ++ jb b := List.flatMap_append ..
theorem jb_one (x : Str) : jb [x] = bt x := by simp [jb]
theorem jb_len {l : List Str} {B : Nat} (h : ∀ x ∈ l, x.size ≤ B) : (jb l).length ≤ l.length * B := by
  induction l with
  | nil => simp [jb]
  | cons a r ih =>
    have := ih fun x hx => h x (List.mem_cons_of_mem _ hx)
    have h2 := h a (List.mem_cons_self ..)
    show (bt a ++ jb r).length ≤ _
    rw [List.length_append, bt_len, List.length_cons, Nat.add_mul]
    omega
/-! a map that holds texts -/
def mset (l : List Str) : List (Value × Value) := l.foldl (fun es x => kset es (.string x) (.bool true)) []
theorem kget_kset (es : List (Value × Value)) (x y : Str) (u : Value) : kget (kset es (.string x) u) (.string y) = if x = y then some u else kget es (.string y) := by
  induction es with
  | nil => by_cases h : x = y <;> simp [kset, kget, keq, eqs, h, eq_comm]
  | cons e r ih =>
    obtain ⟨k, v⟩ := e
    rw [kset, kget]
    cases hk : keq k (.string x) with
    | true =>
      rw [cond_true, kget]
      cases k <;> simp only [keq] at hk <;> try (cases hk; done)
      rename_i a
      have : x = a := by simpa [eqs] using hk
      subst this
      by_cases h : x = y
      · subst h; simp [keq, eqs]
      · have h3 : ¬ y = x := fun e => h e.symm
        simp [keq, eqs, h, h3]
    | false =>
      rw [cond_false, kget, ih]
      by_cases h : x = y
      · subst h
        rw [hk]; simp
      · simp [h]
theorem mset_get (l : List Str) (y : Str) : kget (mset l) (.string y) = if inL l y = true then some (.bool true) else none := by
  unfold mset
  have : ∀ (l : List Str) (es : List (Value × Value)), kget (l.foldl (fun es x => kset es (.string x) (.bool true)) es) (.string y) = if inL l y = true then some (.bool true) else kget es (.string y) := fun l => by
    induction l with
    | nil => intro es; simp [inL]
    | cons a r ih =>
      intro es
      rw [List.foldl_cons, ih, kget_kset]
      by_cases h1 : inL r y = true
      · have : inL (a :: r) y = true := by unfold inL at h1 ⊢; rw [List.any_cons, h1]; simp
        rw [if_pos h1, if_pos this]
      · rw [if_neg h1]
        by_cases h2 : a = y
        · have : inL (a :: r) y = true := by unfold inL; rw [List.any_cons]; simp [h2]
          rw [if_pos h2, if_pos this]
        · have : ¬ inL (a :: r) y = true := by unfold inL at h1 ⊢; rw [List.any_cons]; simp [h2]; simpa using h1
          rw [if_neg h2, if_neg this]
  rw [this]; rfl
theorem mset_step {l : List Str} {i : Nat} {x : Str} (h : l[i]? = some x) : mset (l.take (i + 1)) = kset (mset (l.take i)) (.string x) (.bool true) := by
  unfold mset; rw [take_step h, List.foldl_append]; rfl
def mok (es : List (Value × Value)) : Bool := es.all fun e => (match e.1 with | .string _ => true | _ => false) && (match e.2 with | .bool _ => true | _ => false)
theorem mok_kset {es : List (Value × Value)} (h : mok es = true) (x : Str) (b : Bool) : mok (kset es (.string x) (.bool b)) = true := by
  induction es with
  | nil => rfl
  | cons e r ih =>
    obtain ⟨k, v⟩ := e
    unfold mok at h ih ⊢
    rw [List.all_cons, Bool.and_eq_true] at h
    rw [kset]
    cases hk : keq k (.string x) with
    | true => rw [cond_true, List.all_cons, h.2]; simp at h ⊢; exact h.1.1
    | false => rw [cond_false, List.all_cons, ih h.2, h.1]; rfl
theorem mset_mok (l : List Str) : mok (mset l) = true := by
  unfold mset
  have : ∀ (l : List Str) (es : List (Value × Value)), mok es = true → mok (l.foldl (fun es x => kset es (.string x) (.bool true)) es) = true := fun l => by
    induction l with
    | nil => intro es h; exact h
    | cons a r ih => intro es h; exact ih _ (mok_kset h a true)
  exact this l [] rfl
theorem mok_kok {es : List (Value × Value)} (h : mok es = true) : kok .str es = true ∧ es.all (fun e => plain e.2) = true := by
  unfold mok at h
  unfold kok
  rw [List.all_eq_true] at h ⊢
  rw [List.all_eq_true]
  constructor
  · intro e he
    have := h e he
    obtain ⟨k, v⟩ := e
    cases k <;> simp at this ⊢
    simp [kkey]
  · intro e he
    have := h e he
    obtain ⟨k, v⟩ := e
    cases v <;> simp at this ⊢
    simp [plain]
end Go.Proofs.Ytkpgdbicefahjaa.Mx

/- sort.Strings. -/
namespace Go.Proofs.Ytkpgdbicefahjaa.Mx
set_option linter.all false
open Go Go.RowKit Go.Proofs Go.Sort
/-- names in their order -/
def srtB (l : List Str) : List (List UInt8) := (l.map (·.data.toList)).mergeSort fun x y => decide (x ≤ y)
def srt (l : List Str) : List Str := (srtB l).map fun b => ⟨b.toArray⟩
theorem srt_nil : srt [] = [] := by simp [srt, srtB]
theorem srtB_len (l : List Str) : (srtB l).length = l.length := by simp [srtB]
theorem srt_len (l : List Str) : (srt l).length = l.length := by simp [srt, srtB_len]
theorem args1 {w : Go.World} {ok : Nat → Prop} {G : Fp} {args : List Value} {x : AV} (h : ArgsRep w ok G args [x]) : ∃ u, args = [u] ∧ OwnA w ok (G 0) u x := by
  match args, h.len with
  | [u], _ => exact ⟨u, rfl, h.own 0 u x rfl rfl⟩
theorem post_same {w : Go.World} {ok : Nat → Prop} {G : Fp} {u : Value} {x : AV} (h : ∀ w' ok', Own w' ok' (fun _ => False) u x) : ∃ H, Post w ok G [u] (.tu [], [some x]) (.tuple #[]) w H := by
  refine ⟨fun _ _ => False, ⟨⟨rfl, rfl, rfl, Nat.le_refl _, fun _ _ _ => rfl⟩, Kp.refl _, fun _ _ _ h => h.elim, fun _ _ h => h.elim, ?_, fun i t hi => ?_⟩⟩
  · exact ⟨[], fun _ _ => False, rfl, rfl, fun _ _ h => h, fun _ _ _ h => h.elim, fun j v x hv => by simp at hv⟩
  · cases i with
    | zero =>
      simp at hi; subst hi
      refine ⟨u, rfl, ?_⟩
      cases x with
      | ag cs => have := h w (fun _ => True); cases this with | rd _ _ _ _ _ hr => cases hr
      | _ => exact h _ _
    | succ i => simp at hi
theorem doesSort (l : List Str) (hl : l.length < 4611686018427387904) : Does Try.prog 27 [.sl true 1 (l.map strR)] (.tu [], [some (.sl true 1 ((srt l).map strR))]) := by
  constructor
  intro w ok G args hA
  left
  refine ⟨by simp [callFunc, Try.func27]; rfl, ?_⟩
  obtain ⟨u, rfl, h0⟩ := args1 hA
  have h0' : Own w ok (G 0) u (.sl true 1 (l.map strR)) := h0
  generalize hr : l.map strR = rows at h0'
  cases h0' with
  | rd _ _ _ h1 => exact (h1 _ _ rfl).elim
  | nil =>
    have : l = [] := by simpa using hr
    subst this
    refine (Any.sort_Strings_none Try.lays192 none 0 w).mono fun e w' hh => ?_
    obtain ⟨rfl, rfl⟩ := hh
    rw [srt_nil]; exact post_same fun w ok => Own.nil _ _
  | emp _ _ b off =>
    have : l = [] := by simpa using hr
    subst this
    refine (Any.sort_Strings_none Try.lays192 (some ⟨b, off, none⟩) 0 w).mono fun e w' hh => ?_
    obtain ⟨rfl, rfl⟩ := hh
    rw [srt_nil]; exact post_same fun w ok => Own.emp _ _ _ _
  | sl _ _ b off cap _ cur e fr Fs f1 f2 f3 f4 f5 f6 f7 f8 f9 f10 f11 =>
    subst hr
    simp only [List.length_map] at *
    have hcell : ∀ i x, l[i]? = some x → cur.getD (off + i) undef = .string x := by
      intro i x hx
      have hi : (l.map strR)[i]? = some [.sc (.string x)] := by rw [List.getElem?_map, hx]; rfl
      have a := f11 i _ 0 _ hi rfl
      simp only [Nat.mul_one, Nat.add_zero] at a
      exact rep_str (own_rep a (by intro z r h; cases h) (by intro cs h; cases h))
    have hH : Holds encStr w b off (l.map (·.data.toList)).toArray := by
      intro j hj
      simp only [List.size_toArray, List.length_map] at hj
      refine ⟨?_, frozen_at f2 f3 (by omega)⟩
      rw [cell_some f2 (by omega), hcell j l[j] (List.getElem?_eq_getElem hj)]
      simp [encStr, hj]
    have z := Any.sort_Strings Try.lays192 b off cap (l.map (·.data.toList)) w hH (Array.getElem?_eq_some_iff.1 f2).1 (by simpa using hl)
    rw [List.length_map] at z
    change Calls _ _ _ _ (fun e w' => e = _ ∧ ∃ n os, w' = grow (putRow encStr (Sort.ahead w n) b off (srtB l).toArray) os) at z
    refine z.mono fun e' w' hh => ?_
    obtain ⟨rfl, n, os, rfl⟩ := hh
    have hsz : (grow (putRow encStr (Sort.ahead w n) b off (srtB l).toArray) os).heap.size = w.heap.size + os.size := by simp
    have hbw := (Array.getElem?_eq_some_iff.1 f2).1
    have hb' : (grow (putRow encStr (Sort.ahead w n) b off (srtB l).toArray) os).heap[b]? = some (.cells (putCells encStr off (srtB l).toArray cur) e fr) := by
      simp only [grow]
      rw [Array.getElem?_append_left (by simpa using hbw)]
      simp [putRow, mapBlock, Array.getElem?_modify, f2, onCells, Sort.ahead]
    have hoth : ∀ k, k < w.heap.size → k ≠ b → (grow (putRow encStr (Sort.ahead w n) b off (srtB l).toArray) os).heap[k]? = w.heap[k]? := by
      intro k hk hkb
      simp only [grow]
      rw [Array.getElem?_append_left (by simpa using hk)]
      simp [putRow, mapBlock, Sort.ahead, Array.getElem?_modify, Ne.symm hkb]
    have hcs : (putCells encStr off (srtB l).toArray cur).size = cur.size := by simp [putCells]
    refine ⟨fun i k => i = 1 ∧ k = b, ⟨⟨rfl, rfl, rfl, by rw [hsz]; omega, fun k hk hm => hoth k hk fun hkb => hm ⟨0, hkb ▸ f1⟩⟩, ?_, fun i j _ h h' => h.1.trans h'.1.symm, fun i k h => ⟨by rw [hsz, h.2]; omega, .inr ⟨0, h.2 ▸ f1⟩⟩, ?_, fun i t hi => ?_⟩⟩
    · intro k c e1 fr1 hk
      by_cases hkb : k = b
      · subst hkb
        rw [f2] at hk; cases hk
        exact ⟨_, hb', hcs⟩
      · exact ⟨c, (hoth k (Array.getElem?_eq_some_iff.1 hk).1 hkb).trans hk, rfl⟩
    · exact ⟨[], fun _ _ => False, rfl, rfl, fun _ _ h => h.elim, fun _ _ _ h => h.elim, fun j v x hv => by simp at hv⟩
    · cases i with
      | succ i => simp at hi
      | zero =>
        simp at hi; subst hi
        refine ⟨_, rfl, ?_⟩
        show Own _ _ _ _ _
        have hlen : ((srt l).map strR).length = l.length := by rw [List.length_map, srt_len]
        have hget : ∀ (i : Nat) (row : Row) (j : Nat) (x : AV), ((srt l).map strR)[i]? = some row → row[j]? = some x → ∃ s, (putCells encStr off (srtB l).toArray cur).getD (off + (i * 1 + j)) undef = .string s ∧ x = .sc (.string s) := by
          intro i row j x hi hj
          have hil : i < l.length := by have := idx_lt hi; rw [hlen] at this; exact this
          rw [List.getElem?_map, srt, List.getElem?_map] at hi
          have hiB : i < (srtB l).length := by rw [srtB_len]; exact hil
          rw [List.getElem?_eq_getElem hiB] at hi
          cases hi
          cases j with
          | succ j => simp [strR] at hj
          | zero =>
            cases hj
            refine ⟨_, ?_, rfl⟩
            have hc : off + i < cur.size := by omega
            simp [putCells, hc, hiB, encStr]
        rw [← hlen]
        refine Own.sl _ 1 b off cap _ (putCells encStr off (srtB l).toArray cur) e fr (fun _ _ _ => False) ⟨rfl, rfl⟩ hb' (by unfold Thawed; rw [hcs]; exact f3) (by rw [hlen]; exact f4) (by rw [hcs]; exact f5) f6 (fun _ _ _ h => h.elim) (fun _ _ _ _ _ h => h.elim) ?_ ?_ ?_
        · intro i row hi
          rw [List.getElem?_map] at hi
          cases hq : (srt l)[i]? with
          | none => rw [hq] at hi; cases hi
          | some s => rw [hq] at hi; cases hi; rfl
        · intro i row j x hi hj
          obtain ⟨s, h1, rfl⟩ := hget i row j x hi hj
          rw [h1]; rfl
        · intro i row j x hi hj
          obtain ⟨s, h1, rfl⟩ := hget i row j x hi hj
          rw [h1]
          exact Own.rd _ _ _ (by intro z r h; cases h) (by intro cs h; cases h) (.sc _ rfl)
end Go.Proofs.Ytkpgdbicefahjaa.Mx

/- Sets of texts: how they grow, their keys in order. -/
namespace Go.Proofs.Ytkpgdbicefahjaa.Mx
set_option linter.all false
open Go Go.RowKit
attribute [local instance 100000] instBEqOfDecidableEq
def pT (s : Str) : Value × Value := (.string s, .bool true)
def ins (l : List Str) (s : Str) : List Str := if s ∈ l then l else l ++ [s]
theorem kset_ins (l : List Str) (s : Str) : kset (l.map pT) (.string s) (.bool true) = (ins l s).map pT := by
  unfold ins
  induction l with
  | nil => simp [kset, pT]
  | cons a r ih =>
    rw [List.map_cons]
    by_cases h : a = s
    · subst h; simp [kset, pT, keq, eqs]
    · have h2 : ¬ s = a := fun e => h e.symm
      show kset ((Value.string a, Value.bool true) :: r.map pT) _ _ = _
      rw [kset]
      have hk : keq (.string a) (.string s) = false := by simp [keq, eqs, h2]
      rw [hk, cond_false, ih]
      by_cases h3 : s ∈ r <;> simp [h3, h2, pT]
theorem ins_mem {l : List Str} {s x : Str} : x ∈ ins l s ↔ x ∈ l ∨ x = s := by
  unfold ins
  split <;> simp
  rename_i h
  intro e; subst e; exact h
def insL (l r : List Str) : List Str := r.foldl ins l
theorem insL_mem {l r : List Str} {x : Str} : x ∈ insL l r ↔ x ∈ l ∨ x ∈ r := by
  unfold insL
  induction r generalizing l with
  | nil => simp
  | cons a r ih => rw [List.foldl_cons, ih, ins_mem]; simp [or_assoc]
theorem nodup_len {l m : List Str} (h : l.Nodup) (hs : ∀ x ∈ l, x ∈ m) : l.length ≤ m.length := by
  induction l generalizing m with
  | nil => exact Nat.zero_le _
  | cons a r ih =>
    rw [List.nodup_cons] at h
    have ha := hs a (by simp)
    have := ih (m := m.erase a) h.2 fun x hx => by
      have hne : x ≠ a := fun e => h.1 (e ▸ hx)
      exact (List.mem_erase_of_ne hne).2 (hs x (by simp [hx]))
    rw [List.length_erase_of_mem ha] at this
    have : 0 < m.length := List.length_pos_of_mem ha
    simp only [List.length_cons]; omega
theorem pT_plain (l : List Str) : ((l.map pT).all fun e => plain e.1 && plain e.2) = true := by
  rw [List.all_eq_true]; intro e he
  obtain ⟨s, _, rfl⟩ := List.mem_map.1 he
  rfl
/-- the lot in order is the order of the lot -/
theorem srt_perm {l m : List Str} (h : l.Perm m) : srt l = srt m := by
  unfold srt srtB
  congr 1
  have hp : ((l.map (·.data.toList)).mergeSort fun x y => decide (x ≤ y)).Perm ((m.map (·.data.toList)).mergeSort fun x y => decide (x ≤ y)) :=
    (List.mergeSort_perm _ _).trans ((h.map _).trans (List.mergeSort_perm _ _).symm)
  have tr : ∀ a b c : List UInt8, decide (a ≤ b) = true → decide (b ≤ c) = true → decide (a ≤ c) = true := by
    intro a b c h1 h2; simp at *; exact List.le_trans h1 h2
  have to : ∀ a b : List UInt8, (decide (a ≤ b) || decide (b ≤ a)) = true := by
    intro a b; simp; exact List.le_total a b
  exact hp.eq_of_pairwise (le := fun x y => decide (x ≤ y) = true) (fun a b _ _ h1 h2 => by simp at h1 h2; exact List.le_antisymm h1 h2) (List.pairwise_mergeSort tr to _) (List.pairwise_mergeSort tr to _)
theorem map_pT_perm {rem : List Str} {kv : Value × Value} {r : List (Value × Value)} (h : (rem.map pT).Perm (kv :: r)) : ∃ s q, kv = pT s ∧ r = q.map pT ∧ rem.Perm (s :: q) := by
  have hk : kv ∈ rem.map pT := h.mem_iff.2 (by simp)
  obtain ⟨s, hs, rfl⟩ := List.mem_map.1 hk
  have h2 : (r.map fun e => match e.1 with | .string s => s | _ => s).map pT = r := by
    rw [List.map_map]
    conv => rhs; rw [← List.map_id r]
    apply List.map_congr_left
    intro e he
    have : e ∈ rem.map pT := h.mem_iff.2 (by simp [he])
    obtain ⟨z, _, rfl⟩ := List.mem_map.1 this
    rfl
  refine ⟨s, r.map fun e => match e.1 with | .string s => s | _ => s, rfl, h2.symm, ?_⟩
  have h3 := h.map fun e => match e.1 with | .string s => s | _ => s
  rw [List.map_map, List.map_cons] at h3
  have h4 : (rem.map ((fun e : Value × Value => match e.1 with | .string s => s | _ => s) ∘ pT)) = rem := by
    conv => rhs; rw [← List.map_id rem]
    apply List.map_congr_left
    intro e he; rfl
  rw [h4] at h3
  exact h3
end Go.Proofs.Ytkpgdbicefahjaa.Mx

/- sort.SearchStrings. -/
namespace Go.Proofs.Ytkpgdbicefahjaa.Mx
set_option linter.all false
open Go Go.RowKit Go.Proofs
theorem lts_def (a b : Str) : lts a b = decide (a.data.toList < b.data.toList) := bytesLess_eq _ _
/-- what is less stands first -/
def parts (l : List Str) (s : Str) : Prop := ∀ a b : Nat, a ≤ b → ∀ x y, l[a]? = some x → l[b]? = some y → lts y s = true → lts x s = true
end Go.Proofs.Ytkpgdbicefahjaa.Mx

/- Pins. -/
namespace Go.Proofs.Ytkpgdbicefahjaa.Mx
set_option linter.all false
open Go Go.RowKit Go.Proofs
set_option linter.unusedSimpArgs false
theorem lts_trans {a b c : Str} (h1 : lts a b = true) (h2 : lts b c = true) : lts a c = true := by
  rw [lts_def] at *
  exact decide_eq_true (List.lt_trans (of_decide_eq_true h1) (of_decide_eq_true h2))
theorem asc_get {w : Int} : ∀ {p : Option Str} {l : List Str} {i : Nat} {x : Str}, ascF w p l = true → l[i]? = some x → (x.size : Int) = w ∧ ∀ q, p = some q → lts q x = true
  | _, [], i, x, _, h => by simp at h
  | p, a :: r, 0, x, h, hx => by
    rw [ascF, Bool.and_eq_true, Bool.and_eq_true, decide_eq_true_eq] at h
    simp only [List.getElem?_cons_zero, Option.some.injEq] at hx
    subst hx
    exact ⟨h.1.1, fun q hq => by rw [hq] at h; exact h.1.2⟩
  | p, a :: r, i + 1, x, h, hx => by
    rw [ascF, Bool.and_eq_true, Bool.and_eq_true, decide_eq_true_eq] at h
    have := asc_get h.2 (by simpa using hx)
    exact ⟨this.1, fun q hq => by rw [hq] at h; exact lts_trans h.1.2 (this.2 a rfl)⟩
theorem asc_lt {w : Int} : ∀ {p : Option Str} {l : List Str} {i j : Nat} {x y : Str}, ascF w p l = true → i < j → l[i]? = some x → l[j]? = some y → lts x y = true
  | _, [], i, j, x, y, _, _, h, _ => by simp at h
  | p, a :: r, 0, j + 1, x, y, h, _, hx, hy => by
    rw [ascF, Bool.and_eq_true, Bool.and_eq_true, decide_eq_true_eq] at h
    simp only [List.getElem?_cons_zero, Option.some.injEq] at hx
    subst hx
    exact (asc_get h.2 (by simpa using hy)).2 a rfl
  | p, a :: r, i + 1, j + 1, x, y, h, hij, hx, hy => by
    rw [ascF, Bool.and_eq_true, Bool.and_eq_true, decide_eq_true_eq] at h
    exact asc_lt h.2 (by omega : i < j) (by simpa using hx) (by simpa using hy)
end Go.Proofs.Ytkpgdbicefahjaa.Mx

/- NewFetch, of the program and of the reference. -/
namespace Go.Proofs.Ytkpgdbicefahjaa.Mx
set_option linter.all false
open Go Go.RowKit Go.Proofs
set_option linter.unusedSimpArgs false
def newRow : Row := [.sc (.int .i64 0), .sc (.int .i64 0), .sc (.int .i64 (-1)), .sc (.string ⟨#[]⟩), .sl true 1 []]
end Go.Proofs.Ytkpgdbicefahjaa.Mx

/- Fetches: valid. -/
namespace Go.Proofs.Ytkpgdbicefahjaa.Mx
set_option linter.all false
open Go Go.RowKit Go.Proofs
set_option linter.unusedSimpArgs false
theorem lts_irrefl (a : Str) : lts a a = false := by
  rw [lts_def]
  exact decide_eq_false (List.lt_irrefl _)
end Go.Proofs.Ytkpgdbicefahjaa.Mx

/- What is put into its place one by one, and what is ordered at the end. -/
namespace Go.Proofs.Ytkpgdbicefahjaa.Mx
set_option linter.all false
open Go Go.RowKit
attribute [local instance 100000] instBEqOfDecidableEq
theorem str_ext {a b : Str} (h : a.data.toList = b.data.toList) : a = b := by
  obtain ⟨a⟩ := a; obtain ⟨b⟩ := b
  simp at h; simp [h]
theorem lts_tri {a b : Str} (h : lts a b = false) (hn : a ≠ b) : lts b a = true := by
  rw [lts_def] at *
  apply decide_eq_true
  have h := of_decide_eq_false h
  apply Classical.byContradiction
  intro h2
  exact hn (str_ext (List.le_antisymm (List.not_lt.1 h2) (List.not_lt.1 h)))
abbrev Up1 (l : List Str) : Prop := l.Pairwise fun a b => lts a b = true
theorem addS_cons (y : Str) (r : List Str) (s : Str) : addS (y :: r) s = if lts y s = true then y :: addS r s else if y = s then y :: r else s :: y :: r := by
  unfold addS hasS
  rw [rk]
  cases h : lts y s with
  | true =>
    simp only [cond_true, List.getElem?_cons_succ, List.take_succ_cons, List.drop_succ_cons, if_true]
    cases decide (r[rk r s]? = some s) <;> rfl
  | false =>
    by_cases h2 : y = s <;> simp [h2]
theorem addS_ins : ∀ {l : List Str} (s : Str), Up1 l → (addS l s).Perm (ins l s)
  | [], s, _ => by simp [addS, hasS, rk, ins]
  | y :: r, s, h => by
    rw [addS_cons]
    replace h := List.pairwise_cons.1 h
    have ih := addS_ins (l := r) s h.2
    split
    · rename_i h1
      have hn : ¬ s = y := fun e => by rw [e, lts_irrefl] at h1; cases h1
      have : ins (y :: r) s = y :: ins r s := by unfold ins; by_cases q : s ∈ r <;> simp [q, hn]
      rw [this]; exact ih.cons y
    · rename_i h1
      split
      · rename_i h2
        subst h2
        have : ins (y :: r) y = y :: r := by simp [ins]
        rw [this]
      · rename_i h2
        have hl := lts_tri (by simpa using h1) h2
        have hr : s ∉ r := fun q => by
          have := lts_trans hl (h.1 s q)
          rw [lts_irrefl] at this; cases this
        have : ins (y :: r) s = (y :: r) ++ [s] := by
          have h3 : ¬ s = y := fun e => h2 e.symm
          simp [ins, hr, h3]
        rw [this]
        exact (List.perm_append_singleton s (y :: r)).symm
theorem addS_up : ∀ {l : List Str} (s : Str), Up1 l → Up1 (addS l s)
  | [], s, _ => by simp [addS, hasS, rk]
  | y :: r, s, h => by
    rw [addS_cons]
    have h' := h
    replace h := List.pairwise_cons.1 h
    have ih := addS_up (l := r) s h.2
    split
    · rename_i h1
      refine List.pairwise_cons.2 ⟨fun x hx => ?_, ih⟩
      rcases ins_mem.1 ((addS_ins s h.2).mem_iff.1 hx) with q | q
      · exact h.1 x q
      · rw [q]; exact h1
    · rename_i h1
      split
      · exact h'
      · rename_i h2
        have hl := lts_tri (by simpa using h1) h2
        refine List.pairwise_cons.2 ⟨fun x hx => ?_, h'⟩
        rcases List.mem_cons.1 hx with q | q
        · rw [q]; exact hl
        · exact lts_trans hl (h.1 x q)
theorem ins_perm {l m : List Str} (h : l.Perm m) (s : Str) : (ins l s).Perm (ins m s) := by
  unfold ins
  by_cases hs : s ∈ l
  · rw [if_pos hs, if_pos (h.mem_iff.1 hs)]; exact h
  · rw [if_neg hs, if_neg fun q => hs (h.mem_iff.2 q)]; exact h.append_right _
theorem fold_ins : ∀ (L A I : List Str), Up1 A → A.Perm I → Up1 (L.foldl addS A) ∧ (L.foldl addS A).Perm (insL I L)
  | [], _, _, h, hp => ⟨h, hp⟩
  | s :: r, A, I, h, hp => fold_ins r (addS A s) (ins I s) (addS_up s h) ((addS_ins s h).trans (ins_perm hp s))
theorem srt_up {l : List Str} (h : Up1 l) : srt l = l := by
  unfold srt srtB
  rw [List.mergeSort_of_pairwise, List.map_map]
  · conv => rhs; rw [← List.map_id l]
    apply List.map_congr_left
    intro x _
    rfl
  · rw [List.pairwise_map]
    exact h.imp fun {a b} hab => by
      rw [lts_def] at hab
      exact decide_eq_true (List.le_of_lt (of_decide_eq_true hab))
/-- both roads lead to one list -/
theorem srt_ins (L : List Str) : srt (insL [] L) = L.foldl addS [] := by
  have := fold_ins L [] [] List.Pairwise.nil (List.Perm.refl _)
  rw [← srt_perm this.2, srt_up this.1]
end Go.Proofs.Ytkpgdbicefahjaa.Mx

/- Drawn pairs of sets, pure. -/
namespace Go.Proofs.Ytkpgdbicefahjaa.Mx
set_option linter.all false
open Go Go.RowKit
/-- texts are taken out at drawn places -/
def cutL (c : List Int) : Nat → List Str → Int → List Str × Int
  | 0, b, p => (b, p)
  | n + 1, b, p => if b.length = 0 then (b, p) else cutL c n (b.take (pickF c p b.length).toNat ++ b.drop ((pickF c p b.length).toNat + 1)) (p + 1)
/-- drawn texts are put in -/
def addL (c : List Int) : List Str → Int → List Str → Int → List Str × Int
  | [], _, b, p => (b, p)
  | x :: r, i, b, p => if i < pickF c p 8 then addL c r (i + 1) (addS b x) (p + 1) else (b, p + 1)
/-- the i-th text that fills a set -/
def filS (i : Int) (w : Nat) : Str := (⟨#[UInt8.ofNat (wr .u8 (i / 256)).toNat, UInt8.ofNat (wr .u8 i).toNat, UInt8.ofNat 0, UInt8.ofNat 0, UInt8.ofNat 0, UInt8.ofNat 0, UInt8.ofNat 0, UInt8.ofNat 0]⟩ : ByteArray).extract 0 w
def filL (w : Nat) : Nat → Nat → List Str → List Str
  | 0, _, a => a
  | f + 1, i, a => if a.length < 501 then filL w f (i + 1) (addS a (filS i w)) else a
theorem addS_le (l : List Str) (s : Str) : (addS l s).length ≤ l.length + 1 := by
  unfold addS; cases hasS l s <;> simp <;> omega
theorem addS_in (l : List Str) (s : Str) : s ∈ addS l s := by
  unfold addS
  cases h : hasS l s with
  | false => simp
  | true =>
    unfold hasS at h
    exact List.mem_of_getElem? (of_decide_eq_true h)
theorem addS_sub (l : List Str) (s : Str) {x : Str} (h : x ∈ l) : x ∈ addS l s := by
  unfold addS
  cases hasS l s with
  | true => exact h
  | false =>
    rw [← List.take_append_drop (rk l s) l] at h
    simp only [List.mem_append] at h
    simp only [cond_false, List.mem_append, List.mem_cons]
    rcases h with h | h
    · simp [h]
    · simp [h]
theorem cutL_len (c : List Int) : ∀ (n : Nat) (b : List Str) (p : Int), (cutL c n b p).1.length ≤ b.length ∧ p ≤ (cutL c n b p).2 ∧ (cutL c n b p).2 ≤ p + n
  | 0, b, p => ⟨Nat.le_refl _, Int.le_refl _, by simp [cutL]⟩
  | n + 1, b, p => by
    rw [cutL]
    split
    · exact ⟨Nat.le_refl _, Int.le_refl _, by simp only; omega⟩
    · have := cutL_len c n (b.take (pickF c p b.length).toNat ++ b.drop ((pickF c p b.length).toNat + 1)) (p + 1)
      rw [List.length_append, List.length_take, List.length_drop] at this
      exact ⟨by omega, by omega, by omega⟩
theorem addL_len (c : List Int) : ∀ (r : List Str) (i : Int) (b : List Str) (p : Int), (addL c r i b p).1.length ≤ b.length + r.length ∧ p ≤ (addL c r i b p).2 ∧ (addL c r i b p).2 ≤ p + r.length
  | [], i, b, p => ⟨Nat.le_refl _, Int.le_refl _, by simp [addL]⟩
  | x :: r, i, b, p => by
    rw [addL, List.length_cons]
    split
    · have := addL_len c r (i + 1) (addS b x) (p + 1)
      have h2 := addS_le b x
      exact ⟨by omega, by omega, by omega⟩
    · exact ⟨by simp only; omega, by simp only; omega, by simp only; omega⟩
theorem filL_le (w : Nat) : ∀ (f i : Nat) (a : List Str), (filL w f i a).length ≤ max a.length 501
  | 0, i, a => by rw [filL]; omega
  | f + 1, i, a => by
    rw [filL]
    split
    · have := filL_le w f (i + 1) (addS a (filS i w))
      have := addS_le a (filS i w)
      omega
    · omega
/-- texts that fill differ -/
theorem ext2 (a b c d e f g h : UInt8) {w : Nat} (hw : w = 2 ∨ w = 4 ∨ w = 8) : ((⟨#[a, b, c, d, e, f, g, h]⟩ : ByteArray).extract 0 w).data[0]? = some a ∧ ((⟨#[a, b, c, d, e, f, g, h]⟩ : ByteArray).extract 0 w).data[1]? = some b := by
  rw [ByteArray.data_extract]
  rcases hw with rfl | rfl | rfl <;> simp
theorem filS_2 (i : Int) {w : Nat} (hw : w = 2 ∨ w = 4 ∨ w = 8) : (filS i w).data[0]? = some (UInt8.ofNat (wr .u8 (i / 256)).toNat) ∧ (filS i w).data[1]? = some (UInt8.ofNat (wr .u8 i).toNat) := by
  exact ext2 _ _ _ _ _ _ _ _ hw
theorem u8_inj {a b : Int} (h : UInt8.ofNat (wr .u8 a).toNat = UInt8.ofNat (wr .u8 b).toNat) : a % 256 = b % 256 := by
  rw [wr_u8, wr_u8] at h
  have := congrArg UInt8.toNat h
  simp only [UInt8.toNat_ofNat'] at this
  omega
theorem filS_inj {i j w : Nat} (hw : w = 2 ∨ w = 4 ∨ w = 8) (hi : i < 65536) (hj : j < 65536) (h : filS i w = filS j w) : i = j := by
  obtain ⟨a1, a2⟩ := filS_2 i hw
  obtain ⟨b1, b2⟩ := filS_2 j hw
  rw [h, b1] at a1
  rw [h, b2] at a2
  have h1 := u8_inj (Option.some.inj a1)
  have h2 := u8_inj (Option.some.inj a2)
  omega
/-- 501 rounds are enough -/
theorem fil_len {w : Nat} (hw : w = 2 ∨ w = 4 ∨ w = 8) {i : Nat} {a : List Str} (hi : i ≤ 60000) (h : ∀ j, j < i → filS j w ∈ a) : i ≤ a.length := by
  have := nodup_len (l := (List.range i).map fun j => filS ((j : Nat) : Int) w) (m := a) (by
    rw [List.nodup_iff_pairwise_ne, List.pairwise_map]
    refine List.Pairwise.imp_of_mem ?_ List.nodup_range
    intro x y hx hy hne e
    rw [List.mem_range] at hx hy
    exact hne (filS_inj hw (by omega) (by omega) e)) (by
    intro x hx
    obtain ⟨j, hj, rfl⟩ := List.mem_map.1 hx
    exact h j (List.mem_range.1 hj))
  simpa using this
end Go.Proofs.Ytkpgdbicefahjaa.Mx

/- Runs whose answer is only known to be of a kind. -/
namespace Go.Proofs.Ytkpgdbicefahjaa.Mx
set_option linter.all false
open Go Go.RowKit
/-- there is an answer of the kind, for which this holds -/
def Sm (Q K : Ans → Prop) : Prop := ∃ r, Q r ∧ K r
theorem Sm.imp {Q K K' : Ans → Prop} (h : ∀ r, K r → K' r) : Sm Q K → Sm Q K' := fun ⟨r, a, b⟩ => ⟨r, a, h r b⟩
theorem ex_call {P : Program} {h : FuncId} {Q : Ans → Prop} {F : Ans → Ans → Prop} {l : List AV} {r' : Ans} (hm : Does P h l r') (hf : Sm Q fun r => F r r') : Sm Q fun r => AfterC P h (fun a => F r a) (some l) :=
  hf.imp fun _ k => ⟨l, r', rfl, hm.m, k⟩
theorem ex_some {P : Program} {h : FuncId} {Q Q' : Ans → Prop} {F : Ans → Ans → Prop} {l : List AV} (hm : ∃ r', Q' r' ∧ Does P h l r') (hf : ∀ r', Q' r' → Sm Q fun r => F r r') : Sm Q fun r => AfterC P h (fun a => F r a) (some l) := by
  obtain ⟨r', hq, hd⟩ := hm
  exact ex_call hd (hf r' hq)
/-- a callee whose answer is only known to be of a kind -/
theorem some_call {P : Program} {h : FuncId} {Q' : Ans → Prop} {f : Ans → Prop} {l : List AV} (hm : ∃ r', Q' r' ∧ Does P h l r') (hf : ∀ r', Q' r' → f r') : AfterC P h f (some l) := by
  obtain ⟨r', hq, hd⟩ := hm
  exact callC hd (hf r' hq)
section
variable {P : Program} {E : Env}
theorem ex_loop {Qa : Ans → Prop} {Q : Ans → Po} {s : St} {c : Code} {α : Type} (I : α → Prop) (st : α → St) (μ : α → Nat) (x0 : α) (hx : I x0) (h0 : norm (E.kp (headId c)) s = st x0)
    (step : ∀ x, I x → (∀ y s, μ y < μ x → I y → norm (E.kp (headId c)) s = st y → Sm Qa fun r => aw P E (.loop c) (Q r) s) → Sm Qa fun r => aw P E c (Po.then (aw P E (.loop c) (Q r)) (Q r)) (st x)) : Sm Qa fun r => aw P E (.loop c) (Q r) s := by
  have key : ∀ n x s, μ x = n → I x → norm (E.kp (headId c)) s = st x → Sm Qa fun r => aw P E (.loop c) (Q r) s := by
    intro n
    induction n using Nat.strongRecOn with
    | _ n ih =>
      intro x s hn hI hs
      refine (step x hI fun y s hlt hIy hsy => ih (μ y) (hn ▸ hlt) y s rfl hIy hsy).imp fun r k => ?_
      rw [aw_loop, hs]; exact k
  exact key _ x0 s rfl hx h0
theorem does_ex (hT : TOk P E.T) (hm : P.follows .mixedOrders = true) {f : FuncId} {fn : Func} {c : Code} {rs : List ResultVar} {lent : List Bool} {avs : List AV} {Q : Ans → Prop} (hf : P.funcs[f]? = some fn) (hb : fn.body = some c) (hn : (fn.name == "runtime.NumGoroutine") = false)
    (hr : fn.results = rs.toArray) (hd : dstOk lent.length fn.ntmps c = true) (hN : avs.length ≤ fn.ntmps) (hl : lent.length ≤ avs.length) (h : Sm Q fun r => aw P E c (Fin E.T rs lent r) (enter avs)) : ∃ r, Q r ∧ Does P f avs r := by
  obtain ⟨r, hq, k⟩ := h
  exact ⟨r, hq, does_of hT hm hf hb hn hr hd hN hl k⟩
theorem ex_draw {Qa : Ans → Prop} {id : Nat} {all : Array Oper} {Q : Ans → Po} {s : St} (h : okD all.toList (E.dp id) = true) (k : Sm Qa fun r => drW P E id (E.dp id) all.toList (Q r .normal) 0 all.toList [] (keep (E.kp id) (frz (E.fz id) s))) : Sm Qa fun r => aw P E (.region id all true) (Q r) s :=
  k.imp fun _ k => (aw_draw h).2 k
end
theorem ex_fin {Q : Ans → Prop} {a : Ans} (h : Q a) : Sm Q fun r => some a = some r := ⟨a, h, rfl⟩
end Go.Proofs.Ytkpgdbicefahjaa.Mx

/- The drawn pair of sets: some pair. -/
namespace Go.Proofs.Ytkpgdbicefahjaa.Mx
set_option linter.all false
open Go Go.RowKit Go.Proofs
set_option linter.unusedSimpArgs false
theorem rep5 {α : Type} (a : α) : List.replicate 5 a = [a, a, a, a, a] := rfl
theorem rep3 {α : Type} (a : α) : List.replicate 3 a = [a, a, a] := rfl
attribute [local push_cast] rep5 rep3
def drwD (r : Ans) : Prop := ∃ (a b : List Str) (w : Int), r = (.tu [.sl true 1 (a.map strR), .sl true 1 (b.map strR), .sc (.int .i64 w)], []) ∧ a.length ≤ 600 ∧ b.length ≤ 600 ∧ 0 ≤ w ∧ w ≤ 9
theorem nat_of {x : Int} (h : 0 ≤ x) : ∃ n : Nat, x = n := ⟨x.toNat, by omega⟩
def E4 : Env := { T := T0, kp := look [(0, [0]), (1, [0]), (2, [5]), (3, [5, 6]), (4, [5, 6, 7]), (5, [5, 6, 7, 8]), (6, [5, 6, 7, 8, 9]), (7, [5, 6, 7, 8, 9]), (8, [5, 6, 7, 8, 9]), (9, [5, 6, 7, 8, 9, 10]), (10, [5, 6, 7, 8]), (11, [5, 6, 7, 8, 11]), (12, [5, 6, 7, 8, 11, 12]), (13, [5, 6, 7, 8, 11, 12]), (14, [5, 6, 7, 8, 11, 12]), (15, [5, 6, 7, 8]), (16, [5, 6, 7, 8, 74]), (17, [5, 6, 7]), (18, [5, 6, 7, 8, 74]), (19, [5, 6, 7, 8]), (20, [5, 6, 7, 8, 74]), (21, [5, 7, 8]), (22, [5, 6, 7, 8, 74]), (23, [5, 6, 7, 8]), (24, [5, 6, 7, 8]), (25, [5, 6, 7, 8, 13]), (26, [5, 6, 7, 8, 13]), (27, [5, 6, 7, 8, 13]), (28, [5, 6, 7, 8]), (29, [6, 7, 8])], dp := look2 [(9, [[], [], [], [1, 2], [0, 1, 2, 3], [], [], [6], [5, 6, 7], [0, 1, 2, 3, 4, 5, 6, 7, 8], [0, 1, 2, 3, 4, 5, 6, 7, 8, 9]]), (21, [[], [], [], [], [3], [2, 3, 4], [2, 3, 4, 5], [0, 3, 4], [0, 1, 3, 4, 7], [0, 1, 2, 3, 4, 5, 6, 7, 8]])], md := look3 [(2, 2, [1, 0]), (3, 2, [1, 0]), (5, 1, [1, 0]), (8, 3, [1, 0]), (10, 2, [1, 0]), (12, 7, [1, 0]), (14, 5, [2]), (15, 1, [1, 0]), (17, 2, [1, 0]), (19, 3, [1, 0]), (21, 4, [1, 0]), (27, 10, [2]), (28, 2, [1, 0])] }
attribute [local push_cast] E4
set_option maxRecDepth 20000 in
set_option maxHeartbeats 4000000 in
theorem drawDiffer (c : List Int) (hc : c.length ≤ 1048576) (hb : ∀ x ∈ c, 0 ≤ x ∧ x ≤ 255) : ∃ r, drwD r ∧ Does Try.prog 4 [.sl false 1 (c.map numR)] r := by
  refine does_ex (E := E4) (rs := [.tmp 2, .tmp 3, .tmp 4]) (lent := []) tOk rfl Try.func4 rfl (by decide) rfl rfl (Nat.le_of_ble_eq_true rfl) (Nat.le_of_ble_eq_true rfl) ?_
  (simp -dsimp (disch := first | omega | (simp only [List.length_cons, List.length_nil, List.length_map, List.length_append, List.length_take, List.length_drop, List.length_replicate, List.length_set, mkG_len] <;> omega) | fail) only [push_cast, if_pos, decide_eq_true, decide_eq_false, Nat.reduceAdd, Nat.reduceSub, Nat.reduceMul, Nat.reduceBEq, Nat.reduceEqDiff, Nat.reduceLT, Nat.reduceLeDiff, Int.reduceToNat, Int.reduceLE, Int.reduceLT, Int.reduceAdd, Int.reduceSub, Int.reduceMul, Int.reduceEq, Int.reduceNeg, ↓reduceIte, reduceCtorEq]) <;> (repeat (refine ex_draw (by kernel_rfl) ?_; simp -dsimp (disch := first | omega | (simp only [List.length_cons, List.length_nil, List.length_map, List.length_append, List.length_take, List.length_drop, List.length_replicate, List.length_set, mkG_len] <;> omega) | fail) only [push_cast, if_pos, decide_eq_true, decide_eq_false, Nat.reduceAdd, Nat.reduceSub, Nat.reduceMul, Nat.reduceBEq, Nat.reduceEqDiff, Nat.reduceLT, Nat.reduceLeDiff, Int.reduceToNat, Int.reduceLE, Int.reduceLT, Int.reduceAdd, Int.reduceSub, Int.reduceMul, Int.reduceEq, Int.reduceNeg, ↓reduceIte, reduceCtorEq]))
  refine ex_call (l1Open c hc) ?_
  have hk : okCode (c.take 2000) := ⟨by rw [List.length_take]; omega, fun x hx => hb x (List.mem_of_mem_take hx)⟩
  generalize c.take 2000 = d at *
  (simp -dsimp (disch := first | omega | (simp only [List.length_cons, List.length_nil, List.length_map, List.length_append, List.length_take, List.length_drop, List.length_replicate, List.length_set, mkG_len] <;> omega) | fail) only [push_cast, if_pos, decide_eq_true, decide_eq_false, Nat.reduceAdd, Nat.reduceSub, Nat.reduceMul, Nat.reduceBEq, Nat.reduceEqDiff, Nat.reduceLT, Nat.reduceLeDiff, Int.reduceToNat, Int.reduceLE, Int.reduceLT, Int.reduceAdd, Int.reduceSub, Int.reduceMul, Int.reduceEq, Int.reduceNeg, ↓reduceIte, reduceCtorEq]) <;> (repeat (refine ex_draw (by kernel_rfl) ?_; simp -dsimp (disch := first | omega | (simp only [List.length_cons, List.length_nil, List.length_map, List.length_append, List.length_take, List.length_drop, List.length_replicate, List.length_set, mkG_len] <;> omega) | fail) only [push_cast, if_pos, decide_eq_true, decide_eq_false, Nat.reduceAdd, Nat.reduceSub, Nat.reduceMul, Nat.reduceBEq, Nat.reduceEqDiff, Nat.reduceLT, Nat.reduceLeDiff, Int.reduceToNat, Int.reduceLE, Int.reduceLT, Int.reduceAdd, Int.reduceSub, Int.reduceMul, Int.reduceEq, Int.reduceNeg, ↓reduceIte, reduceCtorEq]))
  refine ex_call (pick d 0 5 hk (by omega) (by omega) (by omega)) ?_
  obtain ⟨z0, z1⟩ := pickF_nn hk 0 5 (by omega) (by omega)
  have z1 := z1 (by omega)
  have hw : ∃ u : Nat, ([[.sc (.int .i64 8)], [.sc (.int .i64 8)], [.sc (.int .i64 4)], [.sc (.int .i64 2)], [.sc (.int .i64 1)]] : List Row)[(pickF d 0 5).toNat]? = some [.sc (.int .i64 u)] ∧ (u = 1 ∨ u = 2 ∨ u = 4 ∨ u = 8) := by
    generalize pickF d 0 5 = q at *
    obtain rfl | rfl | rfl | rfl | rfl : q = 0 ∨ q = 1 ∨ q = 2 ∨ q = 3 ∨ q = 4 := by omega
    · exact ⟨8, rfl, by decide⟩
    · exact ⟨8, rfl, by decide⟩
    · exact ⟨4, rfl, by decide⟩
    · exact ⟨2, rfl, by decide⟩
    · exact ⟨1, rfl, by decide⟩
  obtain ⟨u, hu1, hu2⟩ := hw
  (simp -dsimp (disch := first | omega | (simp only [hu1, List.length_cons, List.length_nil, List.length_map, List.length_append, List.length_take, List.length_drop, List.length_replicate, List.length_set, mkG_len] <;> omega) | fail) only [push_cast, if_pos, decide_eq_true, decide_eq_false, hu1, Nat.reduceAdd, Nat.reduceSub, Nat.reduceMul, Nat.reduceBEq, Nat.reduceEqDiff, Nat.reduceLT, Nat.reduceLeDiff, Int.reduceToNat, Int.reduceLE, Int.reduceLT, Int.reduceAdd, Int.reduceSub, Int.reduceMul, Int.reduceEq, Int.reduceNeg, ↓reduceIte, reduceCtorEq]) <;> (repeat (refine ex_draw (by kernel_rfl) ?_; simp -dsimp (disch := first | omega | (simp only [hu1, List.length_cons, List.length_nil, List.length_map, List.length_append, List.length_take, List.length_drop, List.length_replicate, List.length_set, mkG_len] <;> omega) | fail) only [push_cast, if_pos, decide_eq_true, decide_eq_false, hu1, Nat.reduceAdd, Nat.reduceSub, Nat.reduceMul, Nat.reduceBEq, Nat.reduceEqDiff, Nat.reduceLT, Nat.reduceLeDiff, Int.reduceToNat, Int.reduceLE, Int.reduceLT, Int.reduceAdd, Int.reduceSub, Int.reduceMul, Int.reduceEq, Int.reduceNeg, ↓reduceIte, reduceCtorEq]))
  have hu8 : u ≤ 8 := by omega
  refine ex_call (l6Draw d 1 u hk (by omega) (by omega) hu8) ?_
  obtain ⟨y0, y1⟩ := pickF_nn hk 1 40 (by omega) (by omega)
  have y1 := y1 (by omega)
  have hal := drL_le d 2 u (pickF d 1 40).toNat
  rw [show (1 : Int) + 1 = 2 from rfl]
  obtain ⟨A, hA⟩ : ∃ A, A = drL d 2 u (pickF d 1 40).toNat := ⟨_, rfl⟩
  rw [← hA] at hal ⊢
  obtain ⟨P, hP⟩ : ∃ P : Int, P = 2 + 3 * (pickF d 1 40).toNat := ⟨_, rfl⟩
  rw [← hP]
  have hP0 : 2 ≤ P ∧ P ≤ 119 := by rw [hP]; omega
  have hal : A.length ≤ 40 := by omega
  clear hA hP
  (simp -dsimp (disch := first | omega | (simp only [List.length_cons, List.length_nil, List.length_map, List.length_append, List.length_take, List.length_drop, List.length_replicate, List.length_set, mkG_len] <;> omega) | fail) only [push_cast, if_pos, decide_eq_true, decide_eq_false, Nat.reduceAdd, Nat.reduceSub, Nat.reduceMul, Nat.reduceBEq, Nat.reduceEqDiff, Nat.reduceLT, Nat.reduceLeDiff, Int.reduceToNat, Int.reduceLE, Int.reduceLT, Int.reduceAdd, Int.reduceSub, Int.reduceMul, Int.reduceEq, Int.reduceNeg, ↓reduceIte, reduceCtorEq]) <;> (repeat (refine ex_draw (by kernel_rfl) ?_; simp -dsimp (disch := first | omega | (simp only [List.length_cons, List.length_nil, List.length_map, List.length_append, List.length_take, List.length_drop, List.length_replicate, List.length_set, mkG_len] <;> omega) | fail) only [push_cast, if_pos, decide_eq_true, decide_eq_false, Nat.reduceAdd, Nat.reduceSub, Nat.reduceMul, Nat.reduceBEq, Nat.reduceEqDiff, Nat.reduceLT, Nat.reduceLeDiff, Int.reduceToNat, Int.reduceLE, Int.reduceLT, Int.reduceAdd, Int.reduceSub, Int.reduceMul, Int.reduceEq, Int.reduceNeg, ↓reduceIte, reduceCtorEq]))
  refine ex_call (pick d P 6 hk (by omega) (by omega) (by omega)) ?_
  obtain ⟨x0, x1⟩ := pickF_nn hk P 6 (by omega) (by omega)
  have x1 := x1 (by omega)
  obtain ⟨N, hN⟩ := nat_of x0
  rw [hN] at x0 x1 ⊢
  (simp -dsimp (disch := first | omega | (simp only [List.length_cons, List.length_nil, List.length_map, List.length_append, List.length_take, List.length_drop, List.length_replicate, List.length_set, mkG_len] <;> omega) | fail) only [push_cast, if_pos, decide_eq_true, decide_eq_false, Nat.reduceAdd, Nat.reduceSub, Nat.reduceMul, Nat.reduceBEq, Nat.reduceEqDiff, Nat.reduceLT, Nat.reduceLeDiff, Int.reduceToNat, Int.reduceLE, Int.reduceLT, Int.reduceAdd, Int.reduceSub, Int.reduceMul, Int.reduceEq, Int.reduceNeg, ↓reduceIte, reduceCtorEq]) <;> (repeat (refine ex_draw (by kernel_rfl) ?_; simp -dsimp (disch := first | omega | (simp only [List.length_cons, List.length_nil, List.length_map, List.length_append, List.length_take, List.length_drop, List.length_replicate, List.length_set, mkG_len] <;> omega) | fail) only [push_cast, if_pos, decide_eq_true, decide_eq_false, Nat.reduceAdd, Nat.reduceSub, Nat.reduceMul, Nat.reduceBEq, Nat.reduceEqDiff, Nat.reduceLT, Nat.reduceLeDiff, Int.reduceToNat, Int.reduceLE, Int.reduceLT, Int.reduceAdd, Int.reduceSub, Int.reduceMul, Int.reduceEq, Int.reduceNeg, ↓reduceIte, reduceCtorEq]))
  refine ex_loop (α := Nat × List Str × Int) (fun q => q.2.1.length ≤ 40 ∧ 0 ≤ q.2.2 ∧ q.2.2 + q.1 ≤ 130)
    (fun q => ⟨[(5, .pt 1 0 0), (6, .sc (.int .i64 u)), (7, .ow 2 0 A.length), (8, .ow 3 0 q.2.1.length), (9, .sc (.int .i64 q.1))], [(1, .bx (rdC1 d q.2.2)), (2, .ar 1 0 (A.map strR)), (3, .ar 1 0 (q.2.1.map strR))], 4⟩)
    (fun q => q.1) (N, A, P + 1) ⟨hal, by simp only; omega, by simp only; omega⟩ ?_ ?_
  · simp -dsimp (disch := first | omega | (simp only [List.length_cons, List.length_nil, List.length_map, List.length_append, List.length_take, List.length_drop, List.length_replicate, List.length_set, mkG_len] <;> omega) | fail) only [push_cast, if_pos, decide_eq_true, decide_eq_false, Nat.reduceAdd, Nat.reduceSub, Nat.reduceMul, Nat.reduceBEq, Nat.reduceEqDiff, Nat.reduceLT, Nat.reduceLeDiff, Int.reduceToNat, Int.reduceLE, Int.reduceLT, Int.reduceAdd, Int.reduceSub, Int.reduceMul, Int.reduceEq, Int.reduceNeg, ↓reduceIte, reduceCtorEq]
  rintro ⟨n, b, p⟩ ⟨g2, g3, g4⟩ ih
  replace g2 : b.length ≤ 40 := g2
  replace g3 : 0 ≤ p := g3
  replace g4 : p + n ≤ 130 := g4
  clear hP0 x0 x1 hN
  by_cases hgo : 0 < n ∧ 0 < b.length
  · obtain ⟨hn0, hz⟩ := hgo
    obtain ⟨w0, w1⟩ := pickF_nn hk p b.length (by omega) (by omega)
    have w1 := w1 (by omega)
    (simp -dsimp (disch := first | omega | (simp only [hz, hn0, List.length_cons, List.length_nil, List.length_map, List.length_append, List.length_take, List.length_drop, List.length_replicate, List.length_set, mkG_len] <;> omega) | fail) only [push_cast, if_pos, decide_eq_true, decide_eq_false, hz, hn0, Nat.reduceAdd, Nat.reduceSub, Nat.reduceMul, Nat.reduceBEq, Nat.reduceEqDiff, Nat.reduceLT, Nat.reduceLeDiff, Int.reduceToNat, Int.reduceLE, Int.reduceLT, Int.reduceAdd, Int.reduceSub, Int.reduceMul, Int.reduceEq, Int.reduceNeg, ↓reduceIte, reduceCtorEq]) <;> (repeat (refine ex_draw (by kernel_rfl) ?_; simp -dsimp (disch := first | omega | (simp only [hz, hn0, List.length_cons, List.length_nil, List.length_map, List.length_append, List.length_take, List.length_drop, List.length_replicate, List.length_set, mkG_len] <;> omega) | fail) only [push_cast, if_pos, decide_eq_true, decide_eq_false, hz, hn0, Nat.reduceAdd, Nat.reduceSub, Nat.reduceMul, Nat.reduceBEq, Nat.reduceEqDiff, Nat.reduceLT, Nat.reduceLeDiff, Int.reduceToNat, Int.reduceLE, Int.reduceLT, Int.reduceAdd, Int.reduceSub, Int.reduceMul, Int.reduceEq, Int.reduceNeg, ↓reduceIte, reduceCtorEq]))
    refine ex_call (pick d p b.length hk (by omega) (by omega) (by omega)) ?_
    obtain ⟨k, hkk⟩ := nat_of w0
    rw [hkk] at w0 w1 ⊢
    have s1 : seg (b.map strR) 0 k = (b.take k).map strR := by simp [seg, List.map_take]
    have s2 : seg (b.map strR) (0 + (k + 1)) (b.length - (k + 1)) = (b.drop (k + 1)).map strR := by
      unfold seg; rw [Nat.zero_add, ← List.map_drop, List.take_of_length_le (by rw [List.length_map, List.length_drop]; omega)]
    have l1 : (b.take k).length = k := by rw [List.length_take]; omega
    have l2 : (b.drop (k + 1)).length = b.length - (k + 1) := List.length_drop
    have t1 : ((k : Int) + 1).toNat = k + 1 := by omega
    have t2 : ((b.length : Int) - ((k : Int) + 1)).toNat = b.length - (k + 1) := by omega
    have t3 : seg (b.map strR) (k + 1) (b.length - (k + 1)) = (b.drop (k + 1)).map strR := by rw [← s2, Nat.zero_add]
    (simp -dsimp (disch := first | omega | (simp only [hz, s1, s2, t3, l1, l2, wr_id, t1, t2, List.length_cons, List.length_nil, List.length_map, List.length_append, List.length_take, List.length_drop, List.length_replicate, List.length_set, mkG_len] <;> omega) | fail) only [push_cast, if_pos, decide_eq_true, decide_eq_false, hz, s1, s2, t3, l1, l2, wr_id, t1, t2, Nat.reduceAdd, Nat.reduceSub, Nat.reduceMul, Nat.reduceBEq, Nat.reduceEqDiff, Nat.reduceLT, Nat.reduceLeDiff, Int.reduceToNat, Int.reduceLE, Int.reduceLT, Int.reduceAdd, Int.reduceSub, Int.reduceMul, Int.reduceEq, Int.reduceNeg, ↓reduceIte, reduceCtorEq]) <;> (repeat (refine ex_draw (by kernel_rfl) ?_; simp -dsimp (disch := first | omega | (simp only [hz, s1, s2, t3, l1, l2, wr_id, t1, t2, List.length_cons, List.length_nil, List.length_map, List.length_append, List.length_take, List.length_drop, List.length_replicate, List.length_set, mkG_len] <;> omega) | fail) only [push_cast, if_pos, decide_eq_true, decide_eq_false, hz, s1, s2, t3, l1, l2, wr_id, t1, t2, Nat.reduceAdd, Nat.reduceSub, Nat.reduceMul, Nat.reduceBEq, Nat.reduceEqDiff, Nat.reduceLT, Nat.reduceLeDiff, Int.reduceToNat, Int.reduceLE, Int.reduceLT, Int.reduceAdd, Int.reduceSub, Int.reduceMul, Int.reduceEq, Int.reduceNeg, ↓reduceIte, reduceCtorEq]))
    refine ih (n - 1, b.take k ++ b.drop (k + 1), p + 1) _ (by show n - 1 < n; omega) ⟨by rw [List.length_append, l1, l2]; omega, by show 0 ≤ p + 1; omega, by show p + 1 + ((n - 1 : Nat) : Int) ≤ 130; omega⟩ ?_
    have en : ((n - 1 : Nat) : Int) = (n : Int) - 1 := by omega
    simp -dsimp (disch := first | omega | (simp only [wr_id, List.map_append, List.length_append, l1, l2, en, List.length_cons, List.length_nil, List.length_map, List.length_append, List.length_take, List.length_drop, List.length_replicate, List.length_set, mkG_len] <;> omega) | fail) only [push_cast, if_pos, decide_eq_true, decide_eq_false, wr_id, List.map_append, List.length_append, l1, l2, en, Nat.reduceAdd, Nat.reduceSub, Nat.reduceMul, Nat.reduceBEq, Nat.reduceEqDiff, Nat.reduceLT, Nat.reduceLeDiff, Int.reduceToNat, Int.reduceLE, Int.reduceLT, Int.reduceAdd, Int.reduceSub, Int.reduceMul, Int.reduceEq, Int.reduceNeg, ↓reduceIte, reduceCtorEq]
  have hP : 0 ≤ p ∧ p ≤ 130 := by omega
  clear g3 g4 ih
  by_cases hn0 : 0 < n
  rotate_left
  focus (simp -dsimp (disch := first | omega | (simp only [hn0, List.length_cons, List.length_nil, List.length_map, List.length_append, List.length_take, List.length_drop, List.length_replicate, List.length_set, mkG_len] <;> omega) | fail) only [push_cast, if_pos, decide_eq_true, decide_eq_false, hn0, Nat.reduceAdd, Nat.reduceSub, Nat.reduceMul, Nat.reduceBEq, Nat.reduceEqDiff, Nat.reduceLT, Nat.reduceLeDiff, Int.reduceToNat, Int.reduceLE, Int.reduceLT, Int.reduceAdd, Int.reduceSub, Int.reduceMul, Int.reduceEq, Int.reduceNeg, ↓reduceIte, reduceCtorEq]) <;> (repeat (refine ex_draw (by kernel_rfl) ?_; simp -dsimp (disch := first | omega | (simp only [hn0, List.length_cons, List.length_nil, List.length_map, List.length_append, List.length_take, List.length_drop, List.length_replicate, List.length_set, mkG_len] <;> omega) | fail) only [push_cast, if_pos, decide_eq_true, decide_eq_false, hn0, Nat.reduceAdd, Nat.reduceSub, Nat.reduceMul, Nat.reduceBEq, Nat.reduceEqDiff, Nat.reduceLT, Nat.reduceLeDiff, Int.reduceToNat, Int.reduceLE, Int.reduceLT, Int.reduceAdd, Int.reduceSub, Int.reduceMul, Int.reduceEq, Int.reduceNeg, ↓reduceIte, reduceCtorEq]))
  rotate_left
  focus
    have hz : ¬ 0 < b.length := fun h => hgo ⟨hn0, h⟩
    (simp -dsimp (disch := first | omega | (simp only [hz, hn0, List.length_cons, List.length_nil, List.length_map, List.length_append, List.length_take, List.length_drop, List.length_replicate, List.length_set, mkG_len] <;> omega) | fail) only [push_cast, if_pos, decide_eq_true, decide_eq_false, hz, hn0, Nat.reduceAdd, Nat.reduceSub, Nat.reduceMul, Nat.reduceBEq, Nat.reduceEqDiff, Nat.reduceLT, Nat.reduceLeDiff, Int.reduceToNat, Int.reduceLE, Int.reduceLT, Int.reduceAdd, Int.reduceSub, Int.reduceMul, Int.reduceEq, Int.reduceNeg, ↓reduceIte, reduceCtorEq]) <;> (repeat (refine ex_draw (by kernel_rfl) ?_; simp -dsimp (disch := first | omega | (simp only [hz, hn0, List.length_cons, List.length_nil, List.length_map, List.length_append, List.length_take, List.length_drop, List.length_replicate, List.length_set, mkG_len] <;> omega) | fail) only [push_cast, if_pos, decide_eq_true, decide_eq_false, hz, hn0, Nat.reduceAdd, Nat.reduceSub, Nat.reduceMul, Nat.reduceBEq, Nat.reduceEqDiff, Nat.reduceLT, Nat.reduceLeDiff, Int.reduceToNat, Int.reduceLE, Int.reduceLT, Int.reduceAdd, Int.reduceSub, Int.reduceMul, Int.reduceEq, Int.reduceNeg, ↓reduceIte, reduceCtorEq]))
  all_goals
    refine ex_call (l6Draw d p u hk (by omega) (by omega) hu8) ?_
    obtain ⟨m0, m1⟩ := pickF_nn hk p 40 (by omega) (by omega)
    have m1 := m1 (by omega)
    have hml := drL_le d (p + 1) u (pickF d p 40).toNat
    generalize drL d (p + 1) u (pickF d p 40).toNat = M at *
    obtain ⟨q0, hq0⟩ : ∃ q : Int, q = p + 1 + 3 * (pickF d p 40).toNat := ⟨_, rfl⟩
    rw [← hq0]
    have hml : M.length ≤ 40 := by omega
    have hq : 0 ≤ q0 ∧ q0 ≤ 300 := by omega
    clear hq0 m0 m1 hP
    (simp -dsimp (disch := first | omega | (simp only [List.length_cons, List.length_nil, List.length_map, List.length_append, List.length_take, List.length_drop, List.length_replicate, List.length_set, mkG_len] <;> omega) | fail) only [push_cast, if_pos, decide_eq_true, decide_eq_false, Nat.reduceAdd, Nat.reduceSub, Nat.reduceMul, Nat.reduceBEq, Nat.reduceEqDiff, Nat.reduceLT, Nat.reduceLeDiff, Int.reduceToNat, Int.reduceLE, Int.reduceLT, Int.reduceAdd, Int.reduceSub, Int.reduceMul, Int.reduceEq, Int.reduceNeg, ↓reduceIte, reduceCtorEq]) <;> (repeat (refine ex_draw (by kernel_rfl) ?_; simp -dsimp (disch := first | omega | (simp only [List.length_cons, List.length_nil, List.length_map, List.length_append, List.length_take, List.length_drop, List.length_replicate, List.length_set, mkG_len] <;> omega) | fail) only [push_cast, if_pos, decide_eq_true, decide_eq_false, Nat.reduceAdd, Nat.reduceSub, Nat.reduceMul, Nat.reduceBEq, Nat.reduceEqDiff, Nat.reduceLT, Nat.reduceLeDiff, Int.reduceToNat, Int.reduceLE, Int.reduceLT, Int.reduceAdd, Int.reduceSub, Int.reduceMul, Int.reduceEq, Int.reduceNeg, ↓reduceIte, reduceCtorEq]))
    refine ex_loop (α := Nat × List Str × Int) (fun x => x.1 ≤ M.length ∧ x.2.1.length ≤ 40 + x.1 ∧ 0 ≤ x.2.2 ∧ x.2.2 ≤ 300 + x.1)
      (fun x => ⟨[(5, .pt 1 0 0), (6, .sc (.int .i64 u)), (7, .ow 2 0 A.length), (8, .ow 3 0 x.2.1.length), (11, .ow 4 0 M.length), (12, .sc (.int .i64 x.1))], [(1, .bx (rdC1 d x.2.2)), (2, .ar 1 0 (A.map strR)), (3, .ar 1 0 (x.2.1.map strR)), (4, .ar 1 0 (M.map strR))], 5⟩)
      (fun x => M.length - x.1) (0, b, q0) ⟨Nat.zero_le _, by simp only; omega, hq.1, by simp only; omega⟩ ?_ ?_
    · simp -dsimp (disch := first | omega | (simp only [List.length_cons, List.length_nil, List.length_map, List.length_append, List.length_take, List.length_drop, List.length_replicate, List.length_set, mkG_len] <;> omega) | fail) only [push_cast, if_pos, decide_eq_true, decide_eq_false, Nat.reduceAdd, Nat.reduceSub, Nat.reduceMul, Nat.reduceBEq, Nat.reduceEqDiff, Nat.reduceLT, Nat.reduceLeDiff, Int.reduceToNat, Int.reduceLE, Int.reduceLT, Int.reduceAdd, Int.reduceSub, Int.reduceMul, Int.reduceEq, Int.reduceNeg, ↓reduceIte, reduceCtorEq]
    clear g2 hq hgo hn0
    rintro ⟨i, b, p⟩ ⟨g1, g2, g3, g4⟩ ih
    replace g1 : i ≤ M.length := g1
    replace g2 : b.length ≤ 40 + i := g2
    replace g3 : 0 ≤ p := g3
    replace g4 : p ≤ 300 + i := g4
    by_cases hi : i < M.length
    rotate_left
    focus
      (simp -dsimp (disch := first | omega | (simp only [hi, List.length_cons, List.length_nil, List.length_map, List.length_append, List.length_take, List.length_drop, List.length_replicate, List.length_set, mkG_len] <;> omega) | fail) only [push_cast, if_pos, decide_eq_true, decide_eq_false, hi, Nat.reduceAdd, Nat.reduceSub, Nat.reduceMul, Nat.reduceBEq, Nat.reduceEqDiff, Nat.reduceLT, Nat.reduceLeDiff, Int.reduceToNat, Int.reduceLE, Int.reduceLT, Int.reduceAdd, Int.reduceSub, Int.reduceMul, Int.reduceEq, Int.reduceNeg, ↓reduceIte, reduceCtorEq]) <;> (repeat (refine ex_draw (by kernel_rfl) ?_; simp -dsimp (disch := first | omega | (simp only [hi, List.length_cons, List.length_nil, List.length_map, List.length_append, List.length_take, List.length_drop, List.length_replicate, List.length_set, mkG_len] <;> omega) | fail) only [push_cast, if_pos, decide_eq_true, decide_eq_false, hi, Nat.reduceAdd, Nat.reduceSub, Nat.reduceMul, Nat.reduceBEq, Nat.reduceEqDiff, Nat.reduceLT, Nat.reduceLeDiff, Int.reduceToNat, Int.reduceLE, Int.reduceLT, Int.reduceAdd, Int.reduceSub, Int.reduceMul, Int.reduceEq, Int.reduceNeg, ↓reduceIte, reduceCtorEq]))
      obtain ⟨P, hP⟩ : ∃ P : Int, P = p := ⟨_, rfl⟩
      rw [← hP]
    rotate_left
    focus
      obtain ⟨s, hs⟩ := ex_get hi
      (simp -dsimp (disch := first | omega | (simp only [hi, List.length_cons, List.length_nil, List.length_map, List.length_append, List.length_take, List.length_drop, List.length_replicate, List.length_set, mkG_len] <;> omega) | fail) only [push_cast, if_pos, decide_eq_true, decide_eq_false, hi, Nat.reduceAdd, Nat.reduceSub, Nat.reduceMul, Nat.reduceBEq, Nat.reduceEqDiff, Nat.reduceLT, Nat.reduceLeDiff, Int.reduceToNat, Int.reduceLE, Int.reduceLT, Int.reduceAdd, Int.reduceSub, Int.reduceMul, Int.reduceEq, Int.reduceNeg, ↓reduceIte, reduceCtorEq]) <;> (repeat (refine ex_draw (by kernel_rfl) ?_; simp -dsimp (disch := first | omega | (simp only [hi, List.length_cons, List.length_nil, List.length_map, List.length_append, List.length_take, List.length_drop, List.length_replicate, List.length_set, mkG_len] <;> omega) | fail) only [push_cast, if_pos, decide_eq_true, decide_eq_false, hi, Nat.reduceAdd, Nat.reduceSub, Nat.reduceMul, Nat.reduceBEq, Nat.reduceEqDiff, Nat.reduceLT, Nat.reduceLeDiff, Int.reduceToNat, Int.reduceLE, Int.reduceLT, Int.reduceAdd, Int.reduceSub, Int.reduceMul, Int.reduceEq, Int.reduceNeg, ↓reduceIte, reduceCtorEq]))
      refine ex_call (pick d p 8 hk (by omega) (by omega) (by omega)) ?_
      obtain ⟨w0, w1⟩ := pickF_nn hk p 8 (by omega) (by omega)
      obtain ⟨k, hkk⟩ := nat_of w0
      rw [hkk]
      by_cases hik : i < k
      · (simp -dsimp (disch := first | omega | (simp only [hi, hik, hs, List.length_cons, List.length_nil, List.length_map, List.length_append, List.length_take, List.length_drop, List.length_replicate, List.length_set, mkG_len] <;> omega) | fail) only [push_cast, if_pos, decide_eq_true, decide_eq_false, hi, hik, hs, Nat.reduceAdd, Nat.reduceSub, Nat.reduceMul, Nat.reduceBEq, Nat.reduceEqDiff, Nat.reduceLT, Nat.reduceLeDiff, Int.reduceToNat, Int.reduceLE, Int.reduceLT, Int.reduceAdd, Int.reduceSub, Int.reduceMul, Int.reduceEq, Int.reduceNeg, ↓reduceIte, reduceCtorEq]) <;> (repeat (refine ex_draw (by kernel_rfl) ?_; simp -dsimp (disch := first | omega | (simp only [hi, hik, hs, List.length_cons, List.length_nil, List.length_map, List.length_append, List.length_take, List.length_drop, List.length_replicate, List.length_set, mkG_len] <;> omega) | fail) only [push_cast, if_pos, decide_eq_true, decide_eq_false, hi, hik, hs, Nat.reduceAdd, Nat.reduceSub, Nat.reduceMul, Nat.reduceBEq, Nat.reduceEqDiff, Nat.reduceLT, Nat.reduceLeDiff, Int.reduceToNat, Int.reduceLE, Int.reduceLT, Int.reduceAdd, Int.reduceSub, Int.reduceMul, Int.reduceEq, Int.reduceNeg, ↓reduceIte, reduceCtorEq]))
        refine ex_call (l4Add b s (by omega)) ?_
        have hla := addS_le b s
        (simp -dsimp (disch := first | omega | (simp only [List.length_cons, List.length_nil, List.length_map, List.length_append, List.length_take, List.length_drop, List.length_replicate, List.length_set, mkG_len] <;> omega) | fail) only [push_cast, if_pos, decide_eq_true, decide_eq_false, Nat.reduceAdd, Nat.reduceSub, Nat.reduceMul, Nat.reduceBEq, Nat.reduceEqDiff, Nat.reduceLT, Nat.reduceLeDiff, Int.reduceToNat, Int.reduceLE, Int.reduceLT, Int.reduceAdd, Int.reduceSub, Int.reduceMul, Int.reduceEq, Int.reduceNeg, ↓reduceIte, reduceCtorEq]) <;> (repeat (refine ex_draw (by kernel_rfl) ?_; simp -dsimp (disch := first | omega | (simp only [List.length_cons, List.length_nil, List.length_map, List.length_append, List.length_take, List.length_drop, List.length_replicate, List.length_set, mkG_len] <;> omega) | fail) only [push_cast, if_pos, decide_eq_true, decide_eq_false, Nat.reduceAdd, Nat.reduceSub, Nat.reduceMul, Nat.reduceBEq, Nat.reduceEqDiff, Nat.reduceLT, Nat.reduceLeDiff, Int.reduceToNat, Int.reduceLE, Int.reduceLT, Int.reduceAdd, Int.reduceSub, Int.reduceMul, Int.reduceEq, Int.reduceNeg, ↓reduceIte, reduceCtorEq]))
        refine ih (i + 1, addS b s, p + 1) _ (by show M.length - (i + 1) < M.length - i; omega) ⟨hi, by show (addS b s).length ≤ 40 + (i + 1); omega, by show 0 ≤ p + 1; omega, by show p + 1 ≤ 300 + ((i + 1 : Nat) : Int); omega⟩ ?_
        simp -dsimp (disch := first | omega | (simp only [wr_id, List.length_cons, List.length_nil, List.length_map, List.length_append, List.length_take, List.length_drop, List.length_replicate, List.length_set, mkG_len] <;> omega) | fail) only [push_cast, if_pos, decide_eq_true, decide_eq_false, wr_id, Nat.reduceAdd, Nat.reduceSub, Nat.reduceMul, Nat.reduceBEq, Nat.reduceEqDiff, Nat.reduceLT, Nat.reduceLeDiff, Int.reduceToNat, Int.reduceLE, Int.reduceLT, Int.reduceAdd, Int.reduceSub, Int.reduceMul, Int.reduceEq, Int.reduceNeg, ↓reduceIte, reduceCtorEq]
      (simp -dsimp (disch := first | omega | (simp only [hi, hik, List.length_cons, List.length_nil, List.length_map, List.length_append, List.length_take, List.length_drop, List.length_replicate, List.length_set, mkG_len] <;> omega) | fail) only [push_cast, if_pos, decide_eq_true, decide_eq_false, hi, hik, Nat.reduceAdd, Nat.reduceSub, Nat.reduceMul, Nat.reduceBEq, Nat.reduceEqDiff, Nat.reduceLT, Nat.reduceLeDiff, Int.reduceToNat, Int.reduceLE, Int.reduceLT, Int.reduceAdd, Int.reduceSub, Int.reduceMul, Int.reduceEq, Int.reduceNeg, ↓reduceIte, reduceCtorEq]) <;> (repeat (refine ex_draw (by kernel_rfl) ?_; simp -dsimp (disch := first | omega | (simp only [hi, hik, List.length_cons, List.length_nil, List.length_map, List.length_append, List.length_take, List.length_drop, List.length_replicate, List.length_set, mkG_len] <;> omega) | fail) only [push_cast, if_pos, decide_eq_true, decide_eq_false, hi, hik, Nat.reduceAdd, Nat.reduceSub, Nat.reduceMul, Nat.reduceBEq, Nat.reduceEqDiff, Nat.reduceLT, Nat.reduceLeDiff, Int.reduceToNat, Int.reduceLE, Int.reduceLT, Int.reduceAdd, Int.reduceSub, Int.reduceMul, Int.reduceEq, Int.reduceNeg, ↓reduceIte, reduceCtorEq]))
      obtain ⟨P, hP⟩ : ∃ P : Int, P = p + 1 := ⟨_, rfl⟩
      rw [← hP]
    all_goals
      clear ih
      have hP : 0 ≤ P ∧ P ≤ 400 := by omega
      have g2 : b.length ≤ 80 := by omega
      clear g1 g3 g4 hi
      refine ex_call (pick d P 16 hk (by omega) (by omega) (by omega)) ?_
      obtain ⟨w0, w1⟩ := pickF_nn hk P 16 (by omega) (by omega)
      obtain ⟨k, hkk⟩ := nat_of w0
      rw [hkk]
      by_cases k0 : k = 0
      · subst k0
        (simp -dsimp (disch := first | omega | (simp only [List.length_cons, List.length_nil, List.length_map, List.length_append, List.length_take, List.length_drop, List.length_replicate, List.length_set, mkG_len] <;> omega) | fail) only [push_cast, if_pos, decide_eq_true, decide_eq_false, Nat.reduceAdd, Nat.reduceSub, Nat.reduceMul, Nat.reduceBEq, Nat.reduceEqDiff, Nat.reduceLT, Nat.reduceLeDiff, Int.reduceToNat, Int.reduceLE, Int.reduceLT, Int.reduceAdd, Int.reduceSub, Int.reduceMul, Int.reduceEq, Int.reduceNeg, ↓reduceIte, reduceCtorEq]) <;> (repeat (refine ex_draw (by kernel_rfl) ?_; simp -dsimp (disch := first | omega | (simp only [List.length_cons, List.length_nil, List.length_map, List.length_append, List.length_take, List.length_drop, List.length_replicate, List.length_set, mkG_len] <;> omega) | fail) only [push_cast, if_pos, decide_eq_true, decide_eq_false, Nat.reduceAdd, Nat.reduceSub, Nat.reduceMul, Nat.reduceBEq, Nat.reduceEqDiff, Nat.reduceLT, Nat.reduceLeDiff, Int.reduceToNat, Int.reduceLE, Int.reduceLT, Int.reduceAdd, Int.reduceSub, Int.reduceMul, Int.reduceEq, Int.reduceNeg, ↓reduceIte, reduceCtorEq]))
        refine ex_call (l6Draw d (P + 1) u hk (by omega) (by omega) hu8) ?_
        obtain ⟨n0, n1⟩ := pickF_nn hk (P + 1) 40 (by omega) (by omega)
        have n1 := n1 (by omega)
        have hll := drL_le d (P + 1 + 1) u (pickF d (P + 1) 40).toNat
        (simp -dsimp (disch := first | omega | (simp only [List.length_cons, List.length_nil, List.length_map, List.length_append, List.length_take, List.length_drop, List.length_replicate, List.length_set, mkG_len] <;> omega) | fail) only [push_cast, if_pos, decide_eq_true, decide_eq_false, Nat.reduceAdd, Nat.reduceSub, Nat.reduceMul, Nat.reduceBEq, Nat.reduceEqDiff, Nat.reduceLT, Nat.reduceLeDiff, Int.reduceToNat, Int.reduceLE, Int.reduceLT, Int.reduceAdd, Int.reduceSub, Int.reduceMul, Int.reduceEq, Int.reduceNeg, ↓reduceIte, reduceCtorEq]) <;> (repeat (refine ex_draw (by kernel_rfl) ?_; simp -dsimp (disch := first | omega | (simp only [List.length_cons, List.length_nil, List.length_map, List.length_append, List.length_take, List.length_drop, List.length_replicate, List.length_set, mkG_len] <;> omega) | fail) only [push_cast, if_pos, decide_eq_true, decide_eq_false, Nat.reduceAdd, Nat.reduceSub, Nat.reduceMul, Nat.reduceBEq, Nat.reduceEqDiff, Nat.reduceLT, Nat.reduceLeDiff, Int.reduceToNat, Int.reduceLE, Int.reduceLT, Int.reduceAdd, Int.reduceSub, Int.reduceMul, Int.reduceEq, Int.reduceNeg, ↓reduceIte, reduceCtorEq]))
        exact ⟨_, ⟨A, drL d (P + 1 + 1) u (pickF d (P + 1) 40).toNat, u, rfl, by omega, by omega, by omega, by omega⟩, rfl⟩
      by_cases k1 : k = 1
      · subst k1
        (simp -dsimp (disch := first | omega | (simp only [List.length_cons, List.length_nil, List.length_map, List.length_append, List.length_take, List.length_drop, List.length_replicate, List.length_set, mkG_len] <;> omega) | fail) only [push_cast, if_pos, decide_eq_true, decide_eq_false, Nat.reduceAdd, Nat.reduceSub, Nat.reduceMul, Nat.reduceBEq, Nat.reduceEqDiff, Nat.reduceLT, Nat.reduceLeDiff, Int.reduceToNat, Int.reduceLE, Int.reduceLT, Int.reduceAdd, Int.reduceSub, Int.reduceMul, Int.reduceEq, Int.reduceNeg, ↓reduceIte, reduceCtorEq]) <;> (repeat (refine ex_draw (by kernel_rfl) ?_; simp -dsimp (disch := first | omega | (simp only [List.length_cons, List.length_nil, List.length_map, List.length_append, List.length_take, List.length_drop, List.length_replicate, List.length_set, mkG_len] <;> omega) | fail) only [push_cast, if_pos, decide_eq_true, decide_eq_false, Nat.reduceAdd, Nat.reduceSub, Nat.reduceMul, Nat.reduceBEq, Nat.reduceEqDiff, Nat.reduceLT, Nat.reduceLeDiff, Int.reduceToNat, Int.reduceLE, Int.reduceLT, Int.reduceAdd, Int.reduceSub, Int.reduceMul, Int.reduceEq, Int.reduceNeg, ↓reduceIte, reduceCtorEq]))
        refine ex_call (pick d (P + 1) 3 hk (by omega) (by omega) (by omega)) ?_
        obtain ⟨n0, n1⟩ := pickF_nn hk (P + 1) 3 (by omega) (by omega)
        have n1 := n1 (by omega)
        obtain ⟨s, hs⟩ : ∃ s : Str, ([[.sc (.string ⟨#[]⟩)], [.sc (.string ⟨#[120]⟩)], [.sc (.string ⟨#[49, 50, 51, 52, 53, 54, 55, 56]⟩)]] : List Row)[(pickF d (P + 1) 3).toNat]? = some [.sc (.string s)] := by
          generalize pickF d (P + 1) 3 = q at *
          obtain rfl | rfl | rfl : q = 0 ∨ q = 1 ∨ q = 2 := by omega
          all_goals exact ⟨_, rfl⟩
        (simp -dsimp (disch := first | omega | (simp only [hs, List.length_cons, List.length_nil, List.length_map, List.length_append, List.length_take, List.length_drop, List.length_replicate, List.length_set, mkG_len] <;> omega) | fail) only [push_cast, if_pos, decide_eq_true, decide_eq_false, hs, Nat.reduceAdd, Nat.reduceSub, Nat.reduceMul, Nat.reduceBEq, Nat.reduceEqDiff, Nat.reduceLT, Nat.reduceLeDiff, Int.reduceToNat, Int.reduceLE, Int.reduceLT, Int.reduceAdd, Int.reduceSub, Int.reduceMul, Int.reduceEq, Int.reduceNeg, ↓reduceIte, reduceCtorEq]) <;> (repeat (refine ex_draw (by kernel_rfl) ?_; simp -dsimp (disch := first | omega | (simp only [hs, List.length_cons, List.length_nil, List.length_map, List.length_append, List.length_take, List.length_drop, List.length_replicate, List.length_set, mkG_len] <;> omega) | fail) only [push_cast, if_pos, decide_eq_true, decide_eq_false, hs, Nat.reduceAdd, Nat.reduceSub, Nat.reduceMul, Nat.reduceBEq, Nat.reduceEqDiff, Nat.reduceLT, Nat.reduceLeDiff, Int.reduceToNat, Int.reduceLE, Int.reduceLT, Int.reduceAdd, Int.reduceSub, Int.reduceMul, Int.reduceEq, Int.reduceNeg, ↓reduceIte, reduceCtorEq]))
        refine ⟨_, ⟨A, b ++ [s], u, rfl, by omega, by simp only [List.length_append, List.length_cons, List.length_nil]; omega, by omega, by omega⟩, ?_⟩
        simp [strR]
      by_cases k2 : k = 2
      · subst k2
        obtain ⟨n0, n1⟩ := pickF_nn hk (P + 1) 3 (by omega) (by omega)
        have n1 := n1 (by omega)
        obtain ⟨s, hs, hs1⟩ : ∃ s : Int, ([[.sc (.int .i64 0)], [.sc (.int .i64 9)], [.sc (.int .i64 3)]] : List Row)[(pickF d (P + 1) 3).toNat]? = some [.sc (.int .i64 s)] ∧ 0 ≤ s ∧ s ≤ 9 := by
          generalize pickF d (P + 1) 3 = q at *
          obtain rfl | rfl | rfl : q = 0 ∨ q = 1 ∨ q = 2 := by omega
          · exact ⟨0, rfl, by omega⟩
          · exact ⟨9, rfl, by omega⟩
          · exact ⟨3, rfl, by omega⟩
        (simp -dsimp (disch := first | omega | (simp only [List.length_cons, List.length_nil, List.length_map, List.length_append, List.length_take, List.length_drop, List.length_replicate, List.length_set, mkG_len] <;> omega) | fail) only [push_cast, if_pos, decide_eq_true, decide_eq_false, Nat.reduceAdd, Nat.reduceSub, Nat.reduceMul, Nat.reduceBEq, Nat.reduceEqDiff, Nat.reduceLT, Nat.reduceLeDiff, Int.reduceToNat, Int.reduceLE, Int.reduceLT, Int.reduceAdd, Int.reduceSub, Int.reduceMul, Int.reduceEq, Int.reduceNeg, ↓reduceIte, reduceCtorEq]) <;> (repeat (refine ex_draw (by kernel_rfl) ?_; simp -dsimp (disch := first | omega | (simp only [List.length_cons, List.length_nil, List.length_map, List.length_append, List.length_take, List.length_drop, List.length_replicate, List.length_set, mkG_len] <;> omega) | fail) only [push_cast, if_pos, decide_eq_true, decide_eq_false, Nat.reduceAdd, Nat.reduceSub, Nat.reduceMul, Nat.reduceBEq, Nat.reduceEqDiff, Nat.reduceLT, Nat.reduceLeDiff, Int.reduceToNat, Int.reduceLE, Int.reduceLT, Int.reduceAdd, Int.reduceSub, Int.reduceMul, Int.reduceEq, Int.reduceNeg, ↓reduceIte, reduceCtorEq]))
        refine ex_call (pick d (P + 1) 3 hk (by omega) (by omega) (by omega)) ?_
        (simp -dsimp (disch := first | omega | (simp only [hs, List.length_cons, List.length_nil, List.length_map, List.length_append, List.length_take, List.length_drop, List.length_replicate, List.length_set, mkG_len] <;> omega) | fail) only [push_cast, if_pos, decide_eq_true, decide_eq_false, hs, Nat.reduceAdd, Nat.reduceSub, Nat.reduceMul, Nat.reduceBEq, Nat.reduceEqDiff, Nat.reduceLT, Nat.reduceLeDiff, Int.reduceToNat, Int.reduceLE, Int.reduceLT, Int.reduceAdd, Int.reduceSub, Int.reduceMul, Int.reduceEq, Int.reduceNeg, ↓reduceIte, reduceCtorEq]) <;> (repeat (refine ex_draw (by kernel_rfl) ?_; simp -dsimp (disch := first | omega | (simp only [hs, List.length_cons, List.length_nil, List.length_map, List.length_append, List.length_take, List.length_drop, List.length_replicate, List.length_set, mkG_len] <;> omega) | fail) only [push_cast, if_pos, decide_eq_true, decide_eq_false, hs, Nat.reduceAdd, Nat.reduceSub, Nat.reduceMul, Nat.reduceBEq, Nat.reduceEqDiff, Nat.reduceLT, Nat.reduceLeDiff, Int.reduceToNat, Int.reduceLE, Int.reduceLT, Int.reduceAdd, Int.reduceSub, Int.reduceMul, Int.reduceEq, Int.reduceNeg, ↓reduceIte, reduceCtorEq]))
        exact ⟨_, ⟨A, b, s, rfl, by omega, by omega, by omega, by omega⟩, rfl⟩
      by_cases k3 : k = 3
      rotate_left
      · (simp -dsimp (disch := first | omega | (simp only [k0, k1, k2, k3, List.length_cons, List.length_nil, List.length_map, List.length_append, List.length_take, List.length_drop, List.length_replicate, List.length_set, mkG_len] <;> omega) | fail) only [push_cast, if_pos, decide_eq_true, decide_eq_false, k0, k1, k2, k3, Nat.reduceAdd, Nat.reduceSub, Nat.reduceMul, Nat.reduceBEq, Nat.reduceEqDiff, Nat.reduceLT, Nat.reduceLeDiff, Int.reduceToNat, Int.reduceLE, Int.reduceLT, Int.reduceAdd, Int.reduceSub, Int.reduceMul, Int.reduceEq, Int.reduceNeg, ↓reduceIte, reduceCtorEq]) <;> (repeat (refine ex_draw (by kernel_rfl) ?_; simp -dsimp (disch := first | omega | (simp only [k0, k1, k2, k3, List.length_cons, List.length_nil, List.length_map, List.length_append, List.length_take, List.length_drop, List.length_replicate, List.length_set, mkG_len] <;> omega) | fail) only [push_cast, if_pos, decide_eq_true, decide_eq_false, k0, k1, k2, k3, Nat.reduceAdd, Nat.reduceSub, Nat.reduceMul, Nat.reduceBEq, Nat.reduceEqDiff, Nat.reduceLT, Nat.reduceLeDiff, Int.reduceToNat, Int.reduceLE, Int.reduceLT, Int.reduceAdd, Int.reduceSub, Int.reduceMul, Int.reduceEq, Int.reduceNeg, ↓reduceIte, reduceCtorEq]))
        exact ⟨_, ⟨A, b, u, rfl, by omega, by omega, by omega, by omega⟩, rfl⟩
      subst k3
      by_cases hu : 1 < u
      rotate_left
      · (simp -dsimp (disch := first | omega | (simp only [hu, List.length_cons, List.length_nil, List.length_map, List.length_append, List.length_take, List.length_drop, List.length_replicate, List.length_set, mkG_len] <;> omega) | fail) only [push_cast, if_pos, decide_eq_true, decide_eq_false, hu, Nat.reduceAdd, Nat.reduceSub, Nat.reduceMul, Nat.reduceBEq, Nat.reduceEqDiff, Nat.reduceLT, Nat.reduceLeDiff, Int.reduceToNat, Int.reduceLE, Int.reduceLT, Int.reduceAdd, Int.reduceSub, Int.reduceMul, Int.reduceEq, Int.reduceNeg, ↓reduceIte, reduceCtorEq]) <;> (repeat (refine ex_draw (by kernel_rfl) ?_; simp -dsimp (disch := first | omega | (simp only [hu, List.length_cons, List.length_nil, List.length_map, List.length_append, List.length_take, List.length_drop, List.length_replicate, List.length_set, mkG_len] <;> omega) | fail) only [push_cast, if_pos, decide_eq_true, decide_eq_false, hu, Nat.reduceAdd, Nat.reduceSub, Nat.reduceMul, Nat.reduceBEq, Nat.reduceEqDiff, Nat.reduceLT, Nat.reduceLeDiff, Int.reduceToNat, Int.reduceLE, Int.reduceLT, Int.reduceAdd, Int.reduceSub, Int.reduceMul, Int.reduceEq, Int.reduceNeg, ↓reduceIte, reduceCtorEq]))
        exact ⟨_, ⟨A, b, u, rfl, by omega, by omega, by omega, by omega⟩, rfl⟩
      have hu3 : u = 2 ∨ u = 4 ∨ u = 8 := by omega
      (simp -dsimp (disch := first | omega | (simp only [hu, List.length_cons, List.length_nil, List.length_map, List.length_append, List.length_take, List.length_drop, List.length_replicate, List.length_set, mkG_len] <;> omega) | fail) only [push_cast, if_pos, decide_eq_true, decide_eq_false, hu, Nat.reduceAdd, Nat.reduceSub, Nat.reduceMul, Nat.reduceBEq, Nat.reduceEqDiff, Nat.reduceLT, Nat.reduceLeDiff, Int.reduceToNat, Int.reduceLE, Int.reduceLT, Int.reduceAdd, Int.reduceSub, Int.reduceMul, Int.reduceEq, Int.reduceNeg, ↓reduceIte, reduceCtorEq]) <;> (repeat (refine ex_draw (by kernel_rfl) ?_; simp -dsimp (disch := first | omega | (simp only [hu, List.length_cons, List.length_nil, List.length_map, List.length_append, List.length_take, List.length_drop, List.length_replicate, List.length_set, mkG_len] <;> omega) | fail) only [push_cast, if_pos, decide_eq_true, decide_eq_false, hu, Nat.reduceAdd, Nat.reduceSub, Nat.reduceMul, Nat.reduceBEq, Nat.reduceEqDiff, Nat.reduceLT, Nat.reduceLeDiff, Int.reduceToNat, Int.reduceLE, Int.reduceLT, Int.reduceAdd, Int.reduceSub, Int.reduceMul, Int.reduceEq, Int.reduceNeg, ↓reduceIte, reduceCtorEq]))
      refine ex_loop (α := Nat × List Str) (fun x => x.2.length ≤ 501 ∧ ∀ j : Nat, j < x.1 → filS j u ∈ x.2)
        (fun x => ⟨[(5, .pt 1 0 0), (6, .sc (.int .i64 u)), (7, .ow 2 0 x.2.length), (8, .ow 3 0 b.length), (13, .sc (.int .i64 x.1))], [(1, .bx (rdC1 d (P + 1))), (2, .ar 1 0 (x.2.map strR)), (3, .ar 1 0 (b.map strR))], 4⟩)
        (fun x => 1000 - x.1) (0, A) ⟨by simp only; omega, fun j hj => by simp only at hj; omega⟩ ?_ ?_
      · simp -dsimp (disch := first | omega | (simp only [List.length_cons, List.length_nil, List.length_map, List.length_append, List.length_take, List.length_drop, List.length_replicate, List.length_set, mkG_len] <;> omega) | fail) only [push_cast, if_pos, decide_eq_true, decide_eq_false, Nat.reduceAdd, Nat.reduceSub, Nat.reduceMul, Nat.reduceBEq, Nat.reduceEqDiff, Nat.reduceLT, Nat.reduceLeDiff, Int.reduceToNat, Int.reduceLE, Int.reduceLT, Int.reduceAdd, Int.reduceSub, Int.reduceMul, Int.reduceEq, Int.reduceNeg, ↓reduceIte, reduceCtorEq]
      rintro ⟨i, a⟩ ⟨f1, f2⟩ ih
      replace f1 : a.length ≤ 501 := f1
      replace f2 : ∀ j : Nat, j < i → filS j u ∈ a := f2
      have hil : i ≤ a.length := by
        apply Classical.byContradiction
        intro hc
        have := fil_len hu3 (i := a.length + 1) (a := a) (by omega) fun j hj => f2 j (by omega)
        omega
      by_cases hal : a.length < 501
      · have hdv : (i : Int).tdiv 256 = i / 256 := Int.tdiv_eq_ediv_of_nonneg (by omega)
        have hi6 : i ≤ 501 := by omega
        (simp -dsimp (disch := first | omega | (simp only [hal, hdv, rep8, size8, wr_id, List.length_cons, List.length_nil, List.length_map, List.length_append, List.length_take, List.length_drop, List.length_replicate, List.length_set, mkG_len] <;> omega) | fail) only [push_cast, if_pos, decide_eq_true, decide_eq_false, hal, hdv, rep8, size8, wr_id, Nat.reduceAdd, Nat.reduceSub, Nat.reduceMul, Nat.reduceBEq, Nat.reduceEqDiff, Nat.reduceLT, Nat.reduceLeDiff, Int.reduceToNat, Int.reduceLE, Int.reduceLT, Int.reduceAdd, Int.reduceSub, Int.reduceMul, Int.reduceEq, Int.reduceNeg, ↓reduceIte, reduceCtorEq]) <;> (repeat (refine ex_draw (by kernel_rfl) ?_; simp -dsimp (disch := first | omega | (simp only [hal, hdv, rep8, size8, wr_id, List.length_cons, List.length_nil, List.length_map, List.length_append, List.length_take, List.length_drop, List.length_replicate, List.length_set, mkG_len] <;> omega) | fail) only [push_cast, if_pos, decide_eq_true, decide_eq_false, hal, hdv, rep8, size8, wr_id, Nat.reduceAdd, Nat.reduceSub, Nat.reduceMul, Nat.reduceBEq, Nat.reduceEqDiff, Nat.reduceLT, Nat.reduceLeDiff, Int.reduceToNat, Int.reduceLE, Int.reduceLT, Int.reduceAdd, Int.reduceSub, Int.reduceMul, Int.reduceEq, Int.reduceNeg, ↓reduceIte, reduceCtorEq]))
        refine ex_call (l4Add a (filS i u) (by omega)) ?_
        have hla := addS_le a (filS i u)
        (simp -dsimp (disch := first | omega | (simp only [List.length_cons, List.length_nil, List.length_map, List.length_append, List.length_take, List.length_drop, List.length_replicate, List.length_set, mkG_len] <;> omega) | fail) only [push_cast, if_pos, decide_eq_true, decide_eq_false, Nat.reduceAdd, Nat.reduceSub, Nat.reduceMul, Nat.reduceBEq, Nat.reduceEqDiff, Nat.reduceLT, Nat.reduceLeDiff, Int.reduceToNat, Int.reduceLE, Int.reduceLT, Int.reduceAdd, Int.reduceSub, Int.reduceMul, Int.reduceEq, Int.reduceNeg, ↓reduceIte, reduceCtorEq]) <;> (repeat (refine ex_draw (by kernel_rfl) ?_; simp -dsimp (disch := first | omega | (simp only [List.length_cons, List.length_nil, List.length_map, List.length_append, List.length_take, List.length_drop, List.length_replicate, List.length_set, mkG_len] <;> omega) | fail) only [push_cast, if_pos, decide_eq_true, decide_eq_false, Nat.reduceAdd, Nat.reduceSub, Nat.reduceMul, Nat.reduceBEq, Nat.reduceEqDiff, Nat.reduceLT, Nat.reduceLeDiff, Int.reduceToNat, Int.reduceLE, Int.reduceLT, Int.reduceAdd, Int.reduceSub, Int.reduceMul, Int.reduceEq, Int.reduceNeg, ↓reduceIte, reduceCtorEq]))
        refine ih (i + 1, addS a (filS i u)) _ (by show 1000 - (i + 1) < 1000 - i; omega) ⟨by show (addS a (filS i u)).length ≤ 501; omega, fun j hj => ?_⟩ ?_
        · replace hj : j < i + 1 := hj
          show filS j u ∈ addS a (filS i u)
          by_cases e : j = i
          · rw [e]; exact addS_in a _
          · exact addS_sub a _ (f2 j (by omega))
        · simp -dsimp (disch := first | omega | (simp only [wr_id, List.length_cons, List.length_nil, List.length_map, List.length_append, List.length_take, List.length_drop, List.length_replicate, List.length_set, mkG_len] <;> omega) | fail) only [push_cast, if_pos, decide_eq_true, decide_eq_false, wr_id, Nat.reduceAdd, Nat.reduceSub, Nat.reduceMul, Nat.reduceBEq, Nat.reduceEqDiff, Nat.reduceLT, Nat.reduceLeDiff, Int.reduceToNat, Int.reduceLE, Int.reduceLT, Int.reduceAdd, Int.reduceSub, Int.reduceMul, Int.reduceEq, Int.reduceNeg, ↓reduceIte, reduceCtorEq]
      have hal5 : a.length = 501 := by omega
      clear ih hil f2 f1
      (simp -dsimp (disch := first | omega | (simp only [hal5, List.length_cons, List.length_nil, List.length_map, List.length_append, List.length_take, List.length_drop, List.length_replicate, List.length_set, mkG_len] <;> omega) | fail) only [push_cast, if_pos, decide_eq_true, decide_eq_false, hal5, Nat.reduceAdd, Nat.reduceSub, Nat.reduceMul, Nat.reduceBEq, Nat.reduceEqDiff, Nat.reduceLT, Nat.reduceLeDiff, Int.reduceToNat, Int.reduceLE, Int.reduceLT, Int.reduceAdd, Int.reduceSub, Int.reduceMul, Int.reduceEq, Int.reduceNeg, ↓reduceIte, reduceCtorEq]) <;> (repeat (refine ex_draw (by kernel_rfl) ?_; simp -dsimp (disch := first | omega | (simp only [hal5, List.length_cons, List.length_nil, List.length_map, List.length_append, List.length_take, List.length_drop, List.length_replicate, List.length_set, mkG_len] <;> omega) | fail) only [push_cast, if_pos, decide_eq_true, decide_eq_false, hal5, Nat.reduceAdd, Nat.reduceSub, Nat.reduceMul, Nat.reduceBEq, Nat.reduceEqDiff, Nat.reduceLT, Nat.reduceLeDiff, Int.reduceToNat, Int.reduceLE, Int.reduceLT, Int.reduceAdd, Int.reduceSub, Int.reduceMul, Int.reduceEq, Int.reduceNeg, ↓reduceIte, reduceCtorEq]))
      refine ex_call (pick d (P + 1) 2 hk (by omega) (by omega) (by omega)) ?_
      obtain ⟨n0, n1⟩ := pickF_nn hk (P + 1) 2 (by omega) (by omega)
      have n1 := n1 (by omega)
      obtain ⟨r, hr⟩ := nat_of n0
      rw [hr] at n0 n1 ⊢
      (simp -dsimp (disch := first | omega | (simp only [wr_id, List.length_cons, List.length_nil, List.length_map, List.length_append, List.length_take, List.length_drop, List.length_replicate, List.length_set, mkG_len] <;> omega) | fail) only [push_cast, if_pos, decide_eq_true, decide_eq_false, wr_id, Nat.reduceAdd, Nat.reduceSub, Nat.reduceMul, Nat.reduceBEq, Nat.reduceEqDiff, Nat.reduceLT, Nat.reduceLeDiff, Int.reduceToNat, Int.reduceLE, Int.reduceLT, Int.reduceAdd, Int.reduceSub, Int.reduceMul, Int.reduceEq, Int.reduceNeg, ↓reduceIte, reduceCtorEq]) <;> (repeat (refine ex_draw (by kernel_rfl) ?_; simp -dsimp (disch := first | omega | (simp only [wr_id, List.length_cons, List.length_nil, List.length_map, List.length_append, List.length_take, List.length_drop, List.length_replicate, List.length_set, mkG_len] <;> omega) | fail) only [push_cast, if_pos, decide_eq_true, decide_eq_false, wr_id, Nat.reduceAdd, Nat.reduceSub, Nat.reduceMul, Nat.reduceBEq, Nat.reduceEqDiff, Nat.reduceLT, Nat.reduceLeDiff, Int.reduceToNat, Int.reduceLE, Int.reduceLT, Int.reduceAdd, Int.reduceSub, Int.reduceMul, Int.reduceEq, Int.reduceNeg, ↓reduceIte, reduceCtorEq]))
      refine ⟨_, ⟨a.take (500 + r), b, u, rfl, by rw [List.length_take]; omega, by omega, by omega, by omega⟩, ?_⟩
      have e : ((500 : Int) + r).toNat = 500 + r := by omega
      simp [seg, e, List.map_take]
end Go.Proofs.Ytkpgdbicefahjaa.Mx

/- Two that talk: note by note. -/
namespace Go.Proofs.Ytkpgdbicefahjaa.Mx
set_option linter.all false
open Go Go.RowKit
abbrev Tn := Note × Bool
def askN (a b : List Str) (w : Int) (t : Tn) : List Note × List Str × List Str := hearN (bif t.2 then b else a) t.1 w
def moreN (a b : List Str) (w : Int) (t : Tn) : List Tn := (askN a b w t).1.map fun n => (n, !t.2)
def onA (a b : List Str) (w : Int) (t : Tn) : List Str := bif t.2 then (askN a b w t).2.1 else (askN a b w t).2.2
def onB (a b : List Str) (w : Int) (t : Tn) : List Str := bif t.2 then (askN a b w t).2.2 else (askN a b w t).2.1
inductive Talks (a b : List Str) (w : Int) : List Tn → Nat → List Str → List Str → Nat × List Str × List Str → Prop
  | nil (c : Nat) (A B : List Str) : Talks a b w [] c A B (c, A, B)
  | cons (t : Tn) (q : List Tn) (c : Nat) (A B : List Str) (R : Nat × List Str × List Str) : Talks a b w (q ++ moreN a b w t) (c + 1) (A ++ onA a b w t) (B ++ onB a b w t) R → Talks a b w (t :: q) c A B R
def costN (a b : List Str) (t : Tn) : Nat := if t.1.has = true then 1 else 2 * max 1 (2 * ((thr a t.1.fr t.1.to).length + (thr b t.1.fr t.1.to).length) - 1)
def costs (a b : List Str) (q : List Tn) : Nat := (q.map (costN a b)).sum
theorem cost_pos (a b : List Str) (t : Tn) : 1 ≤ costN a b t := by unfold costN; split <;> omega
theorem costs_cons (a b : List Str) (t : Tn) (q : List Tn) : costs a b (t :: q) = costN a b t + costs a b q := by simp [costs]
theorem costs_app (a b : List Str) (p q : List Tn) : costs a b (p ++ q) = costs a b p + costs a b q := by simp [costs]
theorem costs_len (a b : List Str) : ∀ q : List Tn, q.length ≤ costs a b q
  | [] => Nat.zero_le _
  | t :: q => by rw [costs_cons, List.length_cons]; have := cost_pos a b t; have := costs_len a b q; omega
theorem setB_up {l : List Str} {w : Int} (h : setB l w = true) : Up1 l ∧ l.length ≤ 500 ∧ ∀ x ∈ l, x ≠ em := by
  unfold setB at h
  simp only [Bool.and_eq_true, decide_eq_true_eq] at h
  have hw : 1 ≤ w := by have := h.1.1; unfold inB at this; have := of_decide_eq_true this; omega
  refine ⟨?_, h.1.2, fun x hx => ?_⟩
  · rw [Up1, List.pairwise_iff_getElem]
    intro i j hi hj hij
    exact asc_lt h.2 hij (List.getElem?_eq_getElem hi) (List.getElem?_eq_getElem hj)
  · obtain ⟨i, hi⟩ := List.getElem?_of_mem hx
    have := (asc_get h.2 hi).1
    intro e; subst e
    have : (em.size : Int) = 0 := rfl
    omega
theorem inT_cut {fr to mid : Str} (h1 : lts mid fr = false) (h2 : to = em ∨ lts mid to = true) (hm : mid ≠ em) (x : Str) :
    (inT fr to x = (inT fr mid x || inT mid to x)) ∧ (inT fr mid x && inT mid to x) = false := by
  unfold inT
  have d : decide (mid = em) = false := decide_eq_false hm
  rw [d, Bool.false_or]
  cases e : lts x mid with
  | true =>
    have : (decide (to = em) || lts x to) = true := by
      rcases h2 with h | h
      · simp [h]
      · rw [lts_trans e h]; simp
    rw [this]; simp
  | false =>
    have : lts x fr = false := by
      cases q : lts x fr with
      | false => rfl
      | true =>
        by_cases hf : fr = mid
        · rw [hf, e] at q; cases q
        · have := lts_tri h1 (Ne.symm hf)
          rw [lts_trans q this] at e; cases e
    rw [this]; simp
theorem thr_cut {fr to mid : Str} (h1 : lts mid fr = false) (h2 : to = em ∨ lts mid to = true) (hm : mid ≠ em) (l : List Str) :
    (thr l fr to).length = (thr l fr mid).length + (thr l mid to).length := by
  unfold thr
  induction l with
  | nil => rfl
  | cons x r ih =>
    have := inT_cut h1 h2 hm x
    rw [List.filter_cons, List.filter_cons, List.filter_cons]
    cases e1 : inT fr mid x <;> cases e2 : inT mid to x <;> simp [this.1, e1, e2] <;> first | omega | (rw [e1, e2] at this; simp at this) | skip
theorem has_tell {l : List Str} {w : Int} (h : setB l w = true) (fr to : Str) : (tellN l fr to w) = ⟨fr, to, (thr l fr to).length, mixS (thr l fr to) w, false, []⟩ := by simp [tellN, h]
theorem cost_step {a b : List Str} {w : Int} (ha : setB a w = true) (hb : setB b w = true) (t : Tn) : 1 + costs a b (moreN a b w t) ≤ costN a b t := by
  obtain ⟨l, hl⟩ : ∃ l, l = (bif t.2 then b else a) := ⟨_, rfl⟩
  have hs : setB l w = true := by rw [hl]; cases t.2 <;> assumption
  obtain ⟨up, hle, hne⟩ := setB_up hs
  unfold moreN askN
  rw [← hl]
  unfold hearN
  split
  · simp [costs]; exact cost_pos a b t
  split
  · simp [costs]; exact cost_pos a b t
  rename_i hh
  split
  · simp [costs]; exact cost_pos a b t
  have c2 : 2 ≤ costN a b t := by unfold costN; rw [if_neg hh]; omega
  split
  · simp [costs, costN]; simpa [costN] using c2
  rename_i hq
  have hlen : 5 ≤ (thr l t.1.fr t.1.to).length := by omega
  obtain ⟨T, hT⟩ : ∃ T, T = thr l t.1.fr t.1.to := ⟨_, rfl⟩
  rw [← hT] at hlen ⊢
  have hmi : T.length / 2 < T.length := by omega
  obtain ⟨mid, hmid⟩ : ∃ m, m = T.getD (T.length / 2) em := ⟨_, rfl⟩
  rw [← hmid]
  have hget : T[T.length / 2]? = some mid := by rw [hmid, List.getD_eq_getElem?_getD, List.getElem?_eq_getElem hmi]; rfl
  have hmem : mid ∈ T := List.mem_of_getElem? hget
  have hml : mid ∈ l ∧ inT t.1.fr t.1.to mid = true := by rw [hT] at hmem; exact List.mem_filter.1 hmem
  have hin := hml.2
  unfold inT at hin
  simp only [Bool.and_eq_true, Bool.not_eq_true', Bool.or_eq_true, decide_eq_true_eq] at hin
  have hme := hne mid hml.1
  have cut := thr_cut hin.1 hin.2 hme
  have hmf : ∀ x ∈ T, x ∈ l ∧ inT t.1.fr t.1.to x = true := fun x hx => by rw [hT] at hx; exact List.mem_filter.1 hx
  have upT : Up1 T := by rw [hT]; exact up.filter _
  have h0 : T[0] ∈ thr l t.1.fr mid := by
    have hm0 : T[0] ∈ T := List.getElem_mem _
    have h0 : T[0] ∈ l ∧ inT t.1.fr t.1.to T[0] = true := hmf _ hm0
    have hlt : lts T[0] mid = true := by
      have := (List.pairwise_iff_getElem.1 upT) 0 (T.length / 2) (by omega) hmi (by omega)
      rw [List.getElem?_eq_getElem hmi] at hget
      cases hget; exact this
    refine List.mem_filter.2 ⟨h0.1, ?_⟩
    have := h0.2
    unfold inT at this ⊢
    simp only [Bool.and_eq_true, Bool.or_eq_true] at this ⊢
    exact ⟨this.1, .inr hlt⟩
  have h1 : mid ∈ thr l mid t.1.to := by
    refine List.mem_filter.2 ⟨hml.1, ?_⟩
    unfold inT
    rw [lts_irrefl]
    simpa using hin.2
  have p0 := List.length_pos_of_mem h0
  have p1 := List.length_pos_of_mem h1
  have ca := cut a
  have cb := cut b
  have pa : 1 ≤ (thr a t.1.fr mid).length + (thr b t.1.fr mid).length := by
    rw [hl] at p0; cases e : t.2 <;> rw [e] at p0 <;> simp only [cond_true, cond_false] at p0 <;> omega
  have pb : 1 ≤ (thr a mid t.1.to).length + (thr b mid t.1.to).length := by
    rw [hl] at p1; cases e : t.2 <;> rw [e] at p1 <;> simp only [cond_true, cond_false] at p1 <;> omega
  rw [has_tell hs, has_tell hs]
  simp only [List.map_cons, List.map_nil, costs, List.sum_cons, List.sum_nil, costN, hh, if_false, Bool.false_eq_true, reduceIte]
  omega
theorem talks_ex {a b : List Str} {w : Int} (ha : setB a w = true) (hb : setB b w = true) : ∀ (n : Nat) (q : List Tn) (c : Nat) (A B : List Str), costs a b q ≤ n → ∃ R, Talks a b w q c A B R
  | _, [], c, A, B, _ => ⟨_, .nil c A B⟩
  | 0, t :: q, c, A, B, h => by rw [costs_cons] at h; have := cost_pos a b t; omega
  | n + 1, t :: q, c, A, B, h => by
    have := cost_step ha hb t
    obtain ⟨R, hR⟩ := talks_ex ha hb n (q ++ moreN a b w t) (c + 1) (A ++ onA a b w t) (B ++ onB a b w t) (by rw [costs_app]; rw [costs_cons] at h; omega)
    exact ⟨R, .cons t q c A B R hR⟩
/-- the talk under way: q is told, i are heard -/
structure TkI (a b : List Str) (w : Int) (R : Nat × List Str × List Str) (q : List Tn) (i : Nat) (A B : List Str) : Prop where
  t : Talks a b w (q.drop i) i A B R
  le : i ≤ q.length
  s : ∀ t ∈ q, t.1.S.length ≤ 500
  c : i + costs a b (q.drop i) ≤ 3998
  la : A.length ≤ 500 * i
  lb : B.length ≤ 500 * i
theorem TkI.len {a b : List Str} {w : Int} {R : Nat × List Str × List Str} {q : List Tn} {i : Nat} {A B : List Str} (h : TkI a b w R q i A B) : q.length ≤ 3998 := by
  have := costs_len a b (q.drop i)
  have := h.c
  rw [List.length_drop] at *
  have := h.le
  omega
theorem minus_len (a b : List Str) : (minusS a b).length ≤ a.length := List.length_filter_le ..
theorem ask_len {a b : List Str} {w : Int} (ha : a.length ≤ 500) (hb : b.length ≤ 500) (t : Tn) (ht : t.1.S.length ≤ 500) :
    (askN a b w t).1.length ≤ 2 ∧ (∀ n ∈ (askN a b w t).1, n.S.length ≤ 500) ∧ (askN a b w t).2.1.length ≤ 500 ∧ (askN a b w t).2.2.length ≤ 500 := by
  obtain ⟨l, hl⟩ : ∃ l, l = (bif t.2 then b else a) := ⟨_, rfl⟩
  have hs : l.length ≤ 500 := by rw [hl]; cases t.2 <;> assumption
  unfold askN
  rw [← hl]
  have h1 := thr_len l t.1.fr t.1.to
  have h2 := minus_len t.1.S (thr l t.1.fr t.1.to)
  have h3 := minus_len (thr l t.1.fr t.1.to) t.1.S
  have ht2 : ∀ fr to, (tellN l fr to w).S = [] := fun fr to => by unfold tellN; split <;> rfl
  unfold hearN
  split
  · simp
  split
  · simp; omega
  split
  · simp
  split
  · simp; omega
  · simp [ht2]
theorem ask_on {a b : List Str} {w : Int} {t : Tn} (h2 : (askN a b w t).2.1.length ≤ 500) (h3 : (askN a b w t).2.2.length ≤ 500) : (onA a b w t).length ≤ 500 ∧ (onB a b w t).length ≤ 500 := by
  unfold onA onB; cases t.2 <;> exact ⟨by assumption, by assumption⟩
theorem TkI.step {a b : List Str} {w : Int} {R : Nat × List Str × List Str} {q : List Tn} {i : Nat} {A B : List Str} (h : TkI a b w R q i A B) (ha : setB a w = true) (hb : setB b w = true) {t : Tn} (ht : q[i]? = some t) :
    TkI a b w R (q ++ moreN a b w t) (i + 1) (A ++ onA a b w t) (B ++ onB a b w t) ∧ costs a b ((q ++ moreN a b w t).drop (i + 1)) < costs a b (q.drop i) := by
  have hi := idx_lt ht
  have hd : q.drop i = t :: q.drop (i + 1) := by
    rw [List.drop_eq_getElem_cons hi]
    rw [List.getElem?_eq_getElem hi] at ht
    cases ht; rfl
  have hd2 : (q ++ moreN a b w t).drop (i + 1) = q.drop (i + 1) ++ moreN a b w t := List.drop_append_of_le_length (by omega)
  have hc := cost_step ha hb t
  have hk := ask_len (w := w) (setB_up ha).2.1 (setB_up hb).2.1 t (h.s t (List.mem_of_getElem? ht))
  have ho := ask_on hk.2.2.1 hk.2.2.2
  have h0 := h.t
  rw [hd] at h0
  have h1 := h.c
  rw [hd, costs_cons] at h1 ⊢
  rw [hd2, costs_app]
  refine ⟨⟨?_, by rw [List.length_append]; omega, ?_, ?_, ?_, ?_⟩, by omega⟩
  · rw [hd2]; cases h0; assumption
  · intro x hx
    rcases List.mem_append.1 hx with q | q
    · exact h.s x q
    · unfold moreN at q
      obtain ⟨n, hn, rfl⟩ := List.mem_map.1 q
      exact hk.2.1 n hn
  · rw [hd2, costs_app]; omega
  · rw [List.length_append]; have := h.la; omega
  · rw [List.length_append]; have := h.lb; omega
theorem TkI.done {a b : List Str} {w : Int} {R : Nat × List Str × List Str} {q : List Tn} {A B : List Str} (h : TkI a b w R q q.length A B) : R = (q.length, A, B) := by
  have := h.t
  rw [List.drop_length] at this
  cases this; rfl
theorem tk_start {a b : List Str} {w : Int} (ha : setB a w = true) (hb : setB b w = true) : ∃ R, TkI a b w R [(tellN a em em w, true)] 0 [] [] := by
  have h1 := thr_len a em em
  have h2 := thr_len b em em
  have h3 := (setB_up ha).2.1
  have h4 := (setB_up hb).2.1
  have hc : costs a b [(tellN a em em w, true)] ≤ 3998 := by
    simp only [has_tell ha, costs, List.map_cons, List.map_nil, List.sum_cons, List.sum_nil, costN]
    simp only [if_false, Bool.false_eq_true, reduceIte]
    omega
  obtain ⟨R, hR⟩ := talks_ex ha hb 3998 [(tellN a em em w, true)] 0 [] [] hc
  refine ⟨R, hR, Nat.zero_le _, fun t ht => ?_, by simpa using hc, by simp, by simp⟩
  simp at ht; subst ht
  rw [has_tell ha]; exact Nat.zero_le _
open Classical in
noncomputable def talkR (a b : List Str) (w : Int) : Nat × List Str × List Str := if h : setB a w = true ∧ setB b w = true then Classical.choose (tk_start h.1 h.2) else (0, [], [])
theorem tk_init {a b : List Str} {w : Int} (ha : setB a w = true) (hb : setB b w = true) : TkI a b w (talkR a b w) [(tellN a em em w, true)] 0 [] [] := by
  unfold talkR
  rw [dif_pos ⟨ha, hb⟩]
  exact Classical.choose_spec (tk_start ha hb)
noncomputable def talkN (a b : List Str) (w : Int) : Talk := if (setB a w && setB b w) = true then ⟨0, (talkR a b w).1, (talkR a b w).2.1.foldl addS [], (talkR a b w).2.2.foldl addS []⟩ else ⟨1, 0, [], []⟩
end Go.Proofs.Ytkpgdbicefahjaa.Mx

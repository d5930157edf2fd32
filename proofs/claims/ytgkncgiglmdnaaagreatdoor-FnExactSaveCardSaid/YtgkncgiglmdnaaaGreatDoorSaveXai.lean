/- A machine over values for Go functions, proved sound, and functions run on it: texts VU, B4, V8, F1, F2, G1, G2. -/
import Derived.Test.YtgkncgiglmdnaaaGreatDoorShC
import Derived.Test.YtgkncgiglmdnaaaGreatDoorSaveXah
/- What a store lacks of a list: pure. -/
namespace Go.Proofs.YtgkncgiglmdnaaaGreatDoor.Mx
set_option linter.all false
open Go Go.RowKit
/-- where a sum's text lies in a store -/
def atI (w : Int) (n : Str) : List Item → Int
  | [] => -1
  | x :: r => if sumS x.t w = n then 0 else if atI w n r < 0 then -1 else atI w n r + 1
theorem at_some {w : Int} {n : Str} : ∀ {I : List Item} {i : Nat} {x : Item}, (∀ j y, j < i → I[j]? = some y → sumS y.t w ≠ n) → I[i]? = some x → sumS x.t w = n → atI w n I = i
  | [], i, x, _, h, _ => by simp at h
  | y :: r, 0, x, _, h, e => by
    cases h
    rw [atI, if_pos e]; rfl
  | y :: r, i + 1, x, hn, h, e => by
    have h1 := hn 0 y (by omega) rfl
    have ih := at_some (I := r) (i := i) (fun j z hj hz => hn (j + 1) z (by omega) hz) h e
    rw [atI, if_neg h1, ih, if_neg (by omega)]; omega
theorem at_none {w : Int} {n : Str} : ∀ {I : List Item}, (∀ y ∈ I, sumS y.t w ≠ n) → atI w n I = -1
  | [], _ => rfl
  | y :: r, hn => by
    rw [atI, if_neg (hn y (by simp)), at_none (I := r) (fun z hz => hn z (by simp [hz])), if_pos (by omega)]
theorem at_get {w : Int} {n : Str} : ∀ {I : List Item}, 0 ≤ atI w n I → ∃ (i : Nat) (x : Item), atI w n I = i ∧ I[i]? = some x ∧ sumS x.t w = n
  | [], h => by rw [atI] at h; omega
  | y :: r, h => by
    rw [atI] at h ⊢
    by_cases e : sumS y.t w = n
    · rw [if_pos e]; exact ⟨0, y, rfl, rfl, e⟩
    · rw [if_neg e] at h ⊢
      by_cases h2 : atI w n r < 0
      · rw [if_pos h2] at h; omega
      · obtain ⟨i, x, h3, h4, h5⟩ := at_get (w := w) (n := n) (I := r) (by omega)
        rw [if_neg h2, h3]
        exact ⟨i + 1, x, by omega, h4, h5⟩
theorem at_ge {w : Int} {n : Str} : ∀ {I : List Item}, -1 ≤ atI w n I
  | [] => by rw [atI]; omega
  | y :: r => by
    rw [atI]
    split
    · omega
    · split <;> omega
theorem at_neg {w : Int} {n : Str} {I : List Item} : atI w n I < 0 ↔ inL (I.map fun x => sumS x.t w) n = false := by
  constructor
  · intro h
    cases hb : inL (I.map fun x => sumS x.t w) n with
    | false => rfl
    | true =>
      obtain ⟨x, hx, e⟩ := List.mem_map.1 ((inL_iff _ _).1 hb)
      exfalso
      have : ∀ (I : List Item), x ∈ I → 0 ≤ atI w n I := fun I => by
        induction I with
        | nil => intro h; cases h
        | cons y r ih =>
          intro h
          rw [atI]
          by_cases e2 : sumS y.t w = n
          · rw [if_pos e2]; omega
          · rw [if_neg e2]
            rcases List.mem_cons.1 h with rfl | h
            · exact (e2 e).elim
            · have := ih h
              rw [if_neg (by omega)]; omega
      have := this I hx
      omega
  · intro h
    apply Classical.byContradiction
    intro hc
    obtain ⟨i, x, _, h1, h2⟩ := at_get (w := w) (n := n) (I := I) (by omega)
    have : inL (I.map fun x => sumS x.t w) n = true := (inL_iff _ _).2 (List.mem_map.2 ⟨x, List.mem_of_getElem? h1, h2⟩)
    rw [this] at h; cases h
/-- the list of a name -/
noncomputable def listF (s : Store) (n : Str) : Lst × Bool := if atI s.w n s.I < 0 then (⟨0, []⟩, false) else match s.I[(atI s.w n s.I).toNat]? with
  | some x => readL x.t s.w
  | none => (⟨0, []⟩, false)
def lackL (w : Int) (I : List Item) : List Str → List Str → List Str
  | acc, [] => acc
  | acc, x :: r => lackL w I (if atI w x I < 0 ∧ inL acc x = false then acc ++ [x] else acc) r
noncomputable def lacksF (s : Store) (n : Str) : List Str := if validSt s = false ∨ (n.size : Int) ≠ s.w then [] else if (listF s n).2 = false then [n] else lackL s.w s.I [] (listF s n).1.S
theorem lackL_len (w : Int) (I : List Item) : ∀ (L acc : List Str), (lackL w I acc L).length ≤ acc.length + L.length
  | [], acc => Nat.le_refl _
  | x :: r, acc => by
    rw [lackL]
    have := lackL_len w I r (if atI w x I < 0 ∧ inL acc x = false then acc ++ [x] else acc)
    split at this
    · rw [List.length_append] at this
      rw [if_pos (by assumption)]
      simp only [List.length_cons, List.length_nil] at this ⊢; omega
    · rw [if_neg (by assumption)]
      rw [List.length_cons]; omega
theorem list_ok {s : Store} {n : Str} : (listF s n).1.S.length ≤ 375 ∧ ∀ x ∈ (listF s n).1.S, x.size ≤ 8 := by
  unfold listF
  split
  · simp
  · split
    · rename_i x _
      cases h : (readL x.t s.w).2 with
      | false => rw [read_fst h]; simp
      | true =>
        obtain ⟨_, w8, _, _, hn, hs⟩ := okLs_up (read_ok h).1
        exact ⟨hn, fun y hy => by have := hs y hy; omega⟩
    · simp
theorem mset_app (l : List Str) (x : Str) : mset (l ++ [x]) = kset (mset l) (.string x) (.bool true) := by
  unfold mset; rw [List.foldl_append]; rfl
theorem inL_app (l m : List Str) (x : Str) : inL (l ++ m) x = (inL l x || inL m x) := by unfold inL; rw [List.any_append]
end Go.Proofs.YtgkncgiglmdnaaaGreatDoor.Mx

/- sort.Strings. -/
namespace Go.Proofs.YtgkncgiglmdnaaaGreatDoor.Mx
set_option linter.all false
open Go Go.RowKit Go.Proofs Go.Sort
/-- names in their order -/
def srtB (l : List Str) : List (List UInt8) := (l.map (·.data.toList)).mergeSort fun x y => decide (x ≤ y)
def srt (l : List Str) : List Str := (srtB l).map fun b => ⟨b.toArray⟩
theorem srt_nil : srt [] = [] := by simp [srt, srtB]
theorem srtB_len (l : List Str) : (srtB l).length = l.length := by simp [srtB]
theorem srt_len (l : List Str) : (srt l).length = l.length := by simp [srt, srtB_len]
theorem args1 {w : Go.World} {ok : Nat → Prop} {G : Fp} {args : List Value} {x : AV} (h : ArgsRep w ok G args [x]) : ∃ u, args = [u] ∧ OwnA w ok (G 0) u x := by
  match args, h.len with
  | [u], _ => exact ⟨u, rfl, h.own 0 u x rfl rfl⟩
theorem post_same {w : Go.World} {ok : Nat → Prop} {G : Fp} {u : Value} {x : AV} (h : ∀ w' ok', Own w' ok' (fun _ => False) u x) : ∃ H, Post w ok G [u] (.tu [], [some x]) (.tuple #[]) w H := by
  refine ⟨fun _ _ => False, ⟨⟨rfl, rfl, rfl, Nat.le_refl _, fun _ _ _ => rfl⟩, Kp.refl _, fun _ _ _ h => h.elim, fun _ _ h => h.elim, ?_, fun i t hi => ?_⟩⟩
  · exact ⟨[], fun _ _ => False, rfl, rfl, fun _ _ h => h, fun _ _ _ h => h.elim, fun j v x hv => by simp at hv⟩
  · cases i with
    | zero =>
      simp at hi; subst hi
      refine ⟨u, rfl, ?_⟩
      cases x with
      | ag cs => have := h w (fun _ => True); cases this with | rd _ _ _ _ _ hr => cases hr
      | _ => exact h _ _
    | succ i => simp at hi
theorem doesSort (l : List Str) (hl : l.length < 4611686018427387904) : Does Tryz.prog 166 [.sl true 1 (l.map strR)] (.tu [], [some (.sl true 1 ((srt l).map strR))]) := by
  constructor
  intro w ok G args hA
  left
  refine ⟨by simp [callFunc, Tryz.func166]; rfl, ?_⟩
  obtain ⟨u, rfl, h0⟩ := args1 hA
  have h0' : Own w ok (G 0) u (.sl true 1 (l.map strR)) := h0
  generalize hr : l.map strR = rows at h0'
  cases h0' with
  | rd _ _ _ h1 => exact (h1 _ _ rfl).elim
  | nil =>
    have : l = [] := by simpa using hr
    subst this
    refine (Any.sort_Strings_none Tryz.lays192 none 0 w).mono fun e w' hh => ?_
    obtain ⟨rfl, rfl⟩ := hh
    rw [srt_nil]; exact post_same fun w ok => Own.nil _ _
  | emp _ _ b off =>
    have : l = [] := by simpa using hr
    subst this
    refine (Any.sort_Strings_none Tryz.lays192 (some ⟨b, off, none⟩) 0 w).mono fun e w' hh => ?_
    obtain ⟨rfl, rfl⟩ := hh
    rw [srt_nil]; exact post_same fun w ok => Own.emp _ _ _ _
  | sl _ _ b off cap _ cur e fr Fs f1 f2 f3 f4 f5 f6 f7 f8 f9 f10 f11 =>
    subst hr
    simp only [List.length_map] at *
    have hcell : ∀ i x, l[i]? = some x → cur.getD (off + i) undef = .string x := by
      intro i x hx
      have hi : (l.map strR)[i]? = some [.sc (.string x)] := by rw [List.getElem?_map, hx]; rfl
      have a := f11 i _ 0 _ hi rfl
      simp only [Nat.mul_one, Nat.add_zero] at a
      exact rep_str (own_rep a (by intro z r h; cases h) (by intro cs h; cases h))
    have hH : Holds encStr w b off (l.map (·.data.toList)).toArray := by
      intro j hj
      simp only [List.size_toArray, List.length_map] at hj
      refine ⟨?_, frozen_at f2 f3 (by omega)⟩
      rw [cell_some f2 (by omega), hcell j l[j] (List.getElem?_eq_getElem hj)]
      simp [encStr, hj]
    have z := Any.sort_Strings Tryz.lays192 b off cap (l.map (·.data.toList)) w hH (Array.getElem?_eq_some_iff.1 f2).1 (by simpa using hl)
    rw [List.length_map] at z
    change Calls _ _ _ _ (fun e w' => e = _ ∧ ∃ n os, w' = grow (putRow encStr (Sort.ahead w n) b off (srtB l).toArray) os) at z
    refine z.mono fun e' w' hh => ?_
    obtain ⟨rfl, n, os, rfl⟩ := hh
    have hsz : (grow (putRow encStr (Sort.ahead w n) b off (srtB l).toArray) os).heap.size = w.heap.size + os.size := by simp
    have hbw := (Array.getElem?_eq_some_iff.1 f2).1
    have hb' : (grow (putRow encStr (Sort.ahead w n) b off (srtB l).toArray) os).heap[b]? = some (.cells (putCells encStr off (srtB l).toArray cur) e fr) := by
      simp only [grow]
      rw [Array.getElem?_append_left (by simpa using hbw)]
      simp [putRow, mapBlock, Array.getElem?_modify, f2, onCells, Sort.ahead]
    have hoth : ∀ k, k < w.heap.size → k ≠ b → (grow (putRow encStr (Sort.ahead w n) b off (srtB l).toArray) os).heap[k]? = w.heap[k]? := by
      intro k hk hkb
      simp only [grow]
      rw [Array.getElem?_append_left (by simpa using hk)]
      simp [putRow, mapBlock, Sort.ahead, Array.getElem?_modify, Ne.symm hkb]
    have hcs : (putCells encStr off (srtB l).toArray cur).size = cur.size := by simp [putCells]
    refine ⟨fun i k => i = 1 ∧ k = b, ⟨⟨rfl, rfl, rfl, by rw [hsz]; omega, fun k hk hm => hoth k hk fun hkb => hm ⟨0, hkb ▸ f1⟩⟩, ?_, fun i j _ h h' => h.1.trans h'.1.symm, fun i k h => ⟨by rw [hsz, h.2]; omega, .inr ⟨0, h.2 ▸ f1⟩⟩, ?_, fun i t hi => ?_⟩⟩
    · intro k c e1 fr1 hk
      by_cases hkb : k = b
      · subst hkb
        rw [f2] at hk; cases hk
        exact ⟨_, hb', hcs⟩
      · exact ⟨c, (hoth k (Array.getElem?_eq_some_iff.1 hk).1 hkb).trans hk, rfl⟩
    · exact ⟨[], fun _ _ => False, rfl, rfl, fun _ _ h => h.elim, fun _ _ _ h => h.elim, fun j v x hv => by simp at hv⟩
    · cases i with
      | succ i => simp at hi
      | zero =>
        simp at hi; subst hi
        refine ⟨_, rfl, ?_⟩
        show Own _ _ _ _ _
        have hlen : ((srt l).map strR).length = l.length := by rw [List.length_map, srt_len]
        have hget : ∀ (i : Nat) (row : Row) (j : Nat) (x : AV), ((srt l).map strR)[i]? = some row → row[j]? = some x → ∃ s, (putCells encStr off (srtB l).toArray cur).getD (off + (i * 1 + j)) undef = .string s ∧ x = .sc (.string s) := by
          intro i row j x hi hj
          have hil : i < l.length := by have := idx_lt hi; rw [hlen] at this; exact this
          rw [List.getElem?_map, srt, List.getElem?_map] at hi
          have hiB : i < (srtB l).length := by rw [srtB_len]; exact hil
          rw [List.getElem?_eq_getElem hiB] at hi
          cases hi
          cases j with
          | succ j => simp [strR] at hj
          | zero =>
            cases hj
            refine ⟨_, ?_, rfl⟩
            have hc : off + i < cur.size := by omega
            simp [putCells, hc, hiB, encStr]
        rw [← hlen]
        refine Own.sl _ 1 b off cap _ (putCells encStr off (srtB l).toArray cur) e fr (fun _ _ _ => False) ⟨rfl, rfl⟩ hb' (by unfold Thawed; rw [hcs]; exact f3) (by rw [hlen]; exact f4) (by rw [hcs]; exact f5) f6 (fun _ _ _ h => h.elim) (fun _ _ _ _ _ h => h.elim) ?_ ?_ ?_
        · intro i row hi
          rw [List.getElem?_map] at hi
          cases hq : (srt l)[i]? with
          | none => rw [hq] at hi; cases hi
          | some s => rw [hq] at hi; cases hi; rfl
        · intro i row j x hi hj
          obtain ⟨s, h1, rfl⟩ := hget i row j x hi hj
          rw [h1]; rfl
        · intro i row j x hi hj
          obtain ⟨s, h1, rfl⟩ := hget i row j x hi hj
          rw [h1]
          exact Own.rd _ _ _ (by intro z r h; cases h) (by intro cs h; cases h) (.sc _ rfl)
end Go.Proofs.YtgkncgiglmdnaaaGreatDoor.Mx

/- Sets of texts: how they grow, their keys in order. -/
namespace Go.Proofs.YtgkncgiglmdnaaaGreatDoor.Mx
set_option linter.all false
open Go Go.RowKit
attribute [local instance 100000] instBEqOfDecidableEq
def pT (s : Str) : Value × Value := (.string s, .bool true)
def ins (l : List Str) (s : Str) : List Str := if s ∈ l then l else l ++ [s]
theorem kset_ins (l : List Str) (s : Str) : kset (l.map pT) (.string s) (.bool true) = (ins l s).map pT := by
  unfold ins
  induction l with
  | nil => simp [kset, pT]
  | cons a r ih =>
    rw [List.map_cons]
    by_cases h : a = s
    · subst h; simp [kset, pT, keq, eqs]
    · have h2 : ¬ s = a := fun e => h e.symm
      show kset ((Value.string a, Value.bool true) :: r.map pT) _ _ = _
      rw [kset]
      have hk : keq (.string a) (.string s) = false := by simp [keq, eqs, h2]
      rw [hk, cond_false, ih]
      by_cases h3 : s ∈ r <;> simp [h3, h2, pT]
theorem ins_nodup {l : List Str} (h : l.Nodup) (s : Str) : (ins l s).Nodup := by
  unfold ins
  split
  · exact h
  · rename_i hs
    rw [List.nodup_append]
    exact ⟨h, by simp, fun a ha b hb => by simp at hb; subst hb; intro e; subst e; exact hs ha⟩
theorem ins_mem {l : List Str} {s x : Str} : x ∈ ins l s ↔ x ∈ l ∨ x = s := by
  unfold ins
  split <;> simp
  rename_i h
  intro e; subst e; exact h
def insL (l r : List Str) : List Str := r.foldl ins l
theorem insL_nodup {l : List Str} (h : l.Nodup) (r : List Str) : (insL l r).Nodup := by
  unfold insL
  induction r generalizing l with
  | nil => exact h
  | cons a r ih => exact ih (ins_nodup h a)
theorem insL_mem {l r : List Str} {x : Str} : x ∈ insL l r ↔ x ∈ l ∨ x ∈ r := by
  unfold insL
  induction r generalizing l with
  | nil => simp
  | cons a r ih => rw [List.foldl_cons, ih, ins_mem]; simp [or_assoc]
theorem nodup_len {l m : List Str} (h : l.Nodup) (hs : ∀ x ∈ l, x ∈ m) : l.length ≤ m.length := by
  induction l generalizing m with
  | nil => exact Nat.zero_le _
  | cons a r ih =>
    rw [List.nodup_cons] at h
    have ha := hs a (by simp)
    have := ih (m := m.erase a) h.2 fun x hx => by
      have hne : x ≠ a := fun e => h.1 (e ▸ hx)
      exact (List.mem_erase_of_ne hne).2 (hs x (by simp [hx]))
    rw [List.length_erase_of_mem ha] at this
    have : 0 < m.length := List.length_pos_of_mem ha
    simp only [List.length_cons]; omega
theorem pT_plain (l : List Str) : ((l.map pT).all fun e => plain e.1 && plain e.2) = true := by
  rw [List.all_eq_true]; intro e he
  obtain ⟨s, _, rfl⟩ := List.mem_map.1 he
  rfl
/-- the lot in order is the order of the lot -/
theorem srt_perm {l m : List Str} (h : l.Perm m) : srt l = srt m := by
  unfold srt srtB
  congr 1
  have hp : ((l.map (·.data.toList)).mergeSort fun x y => decide (x ≤ y)).Perm ((m.map (·.data.toList)).mergeSort fun x y => decide (x ≤ y)) :=
    (List.mergeSort_perm _ _).trans ((h.map _).trans (List.mergeSort_perm _ _).symm)
  have tr : ∀ a b c : List UInt8, decide (a ≤ b) = true → decide (b ≤ c) = true → decide (a ≤ c) = true := by
    intro a b c h1 h2; simp at *; exact List.le_trans h1 h2
  have «to» : ∀ a b : List UInt8, (decide (a ≤ b) || decide (b ≤ a)) = true := by
    intro a b; simp; exact List.le_total a b
  exact hp.eq_of_pairwise (le := fun x y => decide (x ≤ y) = true) (fun a b _ _ h1 h2 => by simp at h1 h2; exact List.le_antisymm h1 h2) (List.pairwise_mergeSort tr «to» _) (List.pairwise_mergeSort tr «to» _)
theorem map_pT_perm {rem : List Str} {kv : Value × Value} {r : List (Value × Value)} (h : (rem.map pT).Perm (kv :: r)) : ∃ s q, kv = pT s ∧ r = q.map pT ∧ rem.Perm (s :: q) := by
  have hk : kv ∈ rem.map pT := h.mem_iff.2 (by simp)
  obtain ⟨s, hs, rfl⟩ := List.mem_map.1 hk
  have h2 : (r.map fun e => match e.1 with | .string s => s | _ => s).map pT = r := by
    rw [List.map_map]
    conv => rhs; rw [← List.map_id r]
    apply List.map_congr_left
    intro e he
    have : e ∈ rem.map pT := h.mem_iff.2 (by simp [he])
    obtain ⟨z, _, rfl⟩ := List.mem_map.1 this
    rfl
  refine ⟨s, r.map fun e => match e.1 with | .string s => s | _ => s, rfl, h2.symm, ?_⟩
  have h3 := h.map fun e => match e.1 with | .string s => s | _ => s
  rw [List.map_map, List.map_cons] at h3
  have h4 : (rem.map ((fun e : Value × Value => match e.1 with | .string s => s | _ => s) ∘ pT)) = rem := by
    conv => rhs; rw [← List.map_id rem]
    apply List.map_congr_left
    intro e he; rfl
  rw [h4] at h3
  exact h3
end Go.Proofs.YtgkncgiglmdnaaaGreatDoor.Mx

/- Sums. -/
namespace Go.Proofs.YtgkncgiglmdnaaaGreatDoor.Mx
set_option linter.all false
open Go Go.RowKit Go.Proofs
def E145 : Env := { T := T0, kp := look [(0, [0]), (1, [0])] }
attribute [local push_cast] E145
theorem widthOk (n : Int) : Does Tryz.prog 145 [.sc (.int .i64 n)] (.sc (.bool (inB n 1 8)), []) := by
  refine does_of (E := E145) (rs := [.tmp 2]) (lent := []) tOk rfl Tryz.func145 rfl (by decide) rfl rfl (Nat.le_of_ble_eq_true rfl) (Nat.le_of_ble_eq_true rfl) ?_
  by_cases h : 1 ≤ n <;> by_cases h2 : n ≤ 8 <;> first | (exfalso; omega) | (simp -dsimp (disch := first | omega | (simp only [h, h2, inB, List.length_cons, List.length_nil, List.length_map, List.length_append, List.length_take, List.length_drop, List.length_replicate, List.length_set, mkG_len] <;> omega) | fail) only [push_cast, if_pos, decide_eq_true, decide_eq_false, h, h2, inB, simprocAttr, -Nat.reduceSubDiff])
def E114 : Env := { T := T0, kp := look [(0, [0, 1, 2]), (1, [0, 1, 2])] }
attribute [local push_cast] E114
theorem l1In (a b c : Int) : Does Tryz.prog 114 [.sc (.int .i64 a), .sc (.int .i64 b), .sc (.int .i64 c)] (.sc (.bool (inB a b c)), []) := by
  refine does_of (E := E114) (rs := [.tmp 6]) (lent := []) tOk rfl Tryz.func114 rfl (by decide) rfl rfl (Nat.le_of_ble_eq_true rfl) (Nat.le_of_ble_eq_true rfl) ?_
  by_cases h : b ≤ a <;> by_cases h2 : a ≤ c <;> simp -dsimp (disch := first | omega | (simp only [h, h2, inB, List.length_cons, List.length_nil, List.length_map, List.length_append, List.length_take, List.length_drop, List.length_replicate, List.length_set, mkG_len] <;> omega) | fail) only [push_cast, if_pos, decide_eq_true, decide_eq_false, h, h2, inB, simprocAttr, -Nat.reduceSubDiff]
def E77 : Env := { T := T0, kp := look [(0, [0]), (1, [0])] }
attribute [local push_cast] E77
theorem l1Width (n : Int) : Does Tryz.prog 77 [.sc (.int .i64 n)] (.sc (.bool (inB n 1 8)), []) := by
  refine does_of (E := E77) (rs := [.tmp 2]) (lent := []) tOk rfl Tryz.func77 rfl (by decide) rfl rfl (Nat.le_of_ble_eq_true rfl) (Nat.le_of_ble_eq_true rfl) ?_
  simp -dsimp (disch := first | omega | (simp only [List.length_cons, List.length_nil, List.length_map, List.length_append, List.length_take, List.length_drop, List.length_replicate, List.length_set, mkG_len] <;> omega) | fail) only [push_cast, if_pos, decide_eq_true, decide_eq_false, simprocAttr, -Nat.reduceSubDiff]
  refine callC (l1In ..) ?_
  simp -dsimp (disch := first | omega | (simp only [List.length_cons, List.length_nil, List.length_map, List.length_append, List.length_take, List.length_drop, List.length_replicate, List.length_set, mkG_len] <;> omega) | fail) only [push_cast, if_pos, decide_eq_true, decide_eq_false, simprocAttr, -Nat.reduceSubDiff]
def E90 : Env := { T := T0, kp := look [(0, [0]), (1, [0]), (2, [0, 3]), (3, [0, 3, 4]), (4, [0, 3, 4]), (5, [0, 3, 4]), (6, [3])] }
attribute [local push_cast] E90
theorem sum64 (t : Str) (ht : t.size < 4611686018427387904) : Does Tryz.prog 90 [.sc (.string t)] (.sc (.int .u64 (hash64 (bt t))), []) := by
  refine does_of (E := E90) (rs := [.tmp 2]) (lent := []) tOk rfl Tryz.func90 rfl (by decide) rfl rfl (Nat.le_of_ble_eq_true rfl) (Nat.le_of_ble_eq_true rfl) ?_
  simp -dsimp (disch := first | omega | (simp only [List.length_cons, List.length_nil, List.length_map, List.length_append, List.length_take, List.length_drop, List.length_replicate, List.length_set, mkG_len] <;> omega) | fail) only [push_cast, if_pos, decide_eq_true, decide_eq_false, simprocAttr, -Nat.reduceSubDiff]
  refine loop_ind (α := Nat) (fun i => i ≤ t.size) (fun i => ⟨[(0, .sc (.string t)), (3, .sc (.int .u64 (((bt t).take i).foldl step64 14695981039346656037))), (4, .sc (.int .i64 i))], [], 1⟩) (fun i => t.size - i) 0 (Nat.zero_le _) ?_ ?_
  · simp -dsimp (disch := first | omega | (simp only [List.foldl_nil, List.length_cons, List.length_nil, List.length_map, List.length_append, List.length_take, List.length_drop, List.length_replicate, List.length_set, mkG_len] <;> omega) | fail) only [push_cast, if_pos, decide_eq_true, decide_eq_false, List.foldl_nil, simprocAttr, -Nat.reduceSubDiff]
  intro i hi ih
  by_cases h : i < t.size
  · obtain ⟨u, hu⟩ := ex_get (by rw [bt_len]; exact h : i < (bt t).length)
    simp -dsimp (disch := first | omega | (simp only [h, hu, List.length_cons, List.length_nil, List.length_map, List.length_append, List.length_take, List.length_drop, List.length_replicate, List.length_set, mkG_len] <;> omega) | fail) only [push_cast, if_pos, decide_eq_true, decide_eq_false, h, hu, simprocAttr, -Nat.reduceSubDiff]
    refine ih (i + 1) _ (by omega) h ?_
    simp -dsimp (disch := first | omega | (simp only [wr_id, take_step hu, List.foldl_append, List.foldl_cons, List.foldl_nil, step64, List.length_cons, List.length_nil, List.length_map, List.length_append, List.length_take, List.length_drop, List.length_replicate, List.length_set, mkG_len] <;> omega) | fail) only [push_cast, if_pos, decide_eq_true, decide_eq_false, wr_id, take_step hu, List.foldl_append, List.foldl_cons, List.foldl_nil, step64, simprocAttr, -Nat.reduceSubDiff]
  · have hl : (bt t).take i = bt t := List.take_of_length_le (by rw [bt_len]; omega)
    simp -dsimp (disch := first | omega | (simp only [h, hl, hash64, List.length_cons, List.length_nil, List.length_map, List.length_append, List.length_take, List.length_drop, List.length_replicate, List.length_set, mkG_len] <;> omega) | fail) only [push_cast, if_pos, decide_eq_true, decide_eq_false, h, hl, hash64, simprocAttr, -Nat.reduceSubDiff]
def E151 : Env := { T := T0, kp := look [(0, [0]), (1, [0]), (2, [0, 3]), (3, [0, 3, 4]), (4, [0, 3, 4]), (5, [0, 3, 4]), (6, [3])] }
attribute [local push_cast] E151
theorem l1Sum64 (t : Str) (ht : t.size < 4611686018427387904) : Does Tryz.prog 151 [.sc (.string t)] (.sc (.int .u64 (hash64 (bt t))), []) := by
  refine does_of (E := E151) (rs := [.tmp 2]) (lent := []) tOk rfl Tryz.func151 rfl (by decide) rfl rfl (Nat.le_of_ble_eq_true rfl) (Nat.le_of_ble_eq_true rfl) ?_
  simp -dsimp (disch := first | omega | (simp only [List.length_cons, List.length_nil, List.length_map, List.length_append, List.length_take, List.length_drop, List.length_replicate, List.length_set, mkG_len] <;> omega) | fail) only [push_cast, if_pos, decide_eq_true, decide_eq_false, simprocAttr, -Nat.reduceSubDiff]
  refine loop_ind (α := Nat) (fun i => i ≤ t.size) (fun i => ⟨[(0, .sc (.string t)), (3, .sc (.int .u64 (((bt t).take i).foldl step64 14695981039346656037))), (4, .sc (.int .i64 i))], [], 1⟩) (fun i => t.size - i) 0 (Nat.zero_le _) ?_ ?_
  · simp -dsimp (disch := first | omega | (simp only [List.foldl_nil, List.length_cons, List.length_nil, List.length_map, List.length_append, List.length_take, List.length_drop, List.length_replicate, List.length_set, mkG_len] <;> omega) | fail) only [push_cast, if_pos, decide_eq_true, decide_eq_false, List.foldl_nil, simprocAttr, -Nat.reduceSubDiff]
  intro i hi ih
  by_cases h : i < t.size
  · obtain ⟨u, hu⟩ := ex_get (by rw [bt_len]; exact h : i < (bt t).length)
    simp -dsimp (disch := first | omega | (simp only [h, hu, List.length_cons, List.length_nil, List.length_map, List.length_append, List.length_take, List.length_drop, List.length_replicate, List.length_set, mkG_len] <;> omega) | fail) only [push_cast, if_pos, decide_eq_true, decide_eq_false, h, hu, simprocAttr, -Nat.reduceSubDiff]
    refine ih (i + 1) _ (by omega) h ?_
    simp -dsimp (disch := first | omega | (simp only [wr_id, take_step hu, List.foldl_append, List.foldl_cons, List.foldl_nil, step64, List.length_cons, List.length_nil, List.length_map, List.length_append, List.length_take, List.length_drop, List.length_replicate, List.length_set, mkG_len] <;> omega) | fail) only [push_cast, if_pos, decide_eq_true, decide_eq_false, wr_id, take_step hu, List.foldl_append, List.foldl_cons, List.foldl_nil, step64, simprocAttr, -Nat.reduceSubDiff]
  · have hl : (bt t).take i = bt t := List.take_of_length_le (by rw [bt_len]; omega)
    simp -dsimp (disch := first | omega | (simp only [h, hl, hash64, List.length_cons, List.length_nil, List.length_map, List.length_append, List.length_take, List.length_drop, List.length_replicate, List.length_set, mkG_len] <;> omega) | fail) only [push_cast, if_pos, decide_eq_true, decide_eq_false, h, hl, hash64, simprocAttr, -Nat.reduceSubDiff]
def E150 : Env := { T := T0, kp := look [(0, [0, 1]), (1, [0, 1]), (2, [0, 1, 5]), (3, [0, 1, 5, 6]), (4, [0, 1, 5, 6]), (5, [0, 1, 5, 6]), (6, [0, 1, 5, 6]), (7, [5])] }
attribute [local push_cast] E150
theorem l1Bytes (h w : Int) (h0 : 0 ≤ h) (h1 : h < 18446744073709551616) (w0 : 0 ≤ w) (w8 : w ≤ 8) : Does Tryz.prog 150 [.sc (.int .u64 h), .sc (.int .i64 w)] (.sc (.string (strN (be w.toNat h))), []) := by
  refine does_of (E := E150) (rs := [.tmp 4]) (lent := []) tOk rfl Tryz.func150 rfl (by decide) rfl rfl (Nat.le_of_ble_eq_true rfl) (Nat.le_of_ble_eq_true rfl) ?_
  simp -dsimp (disch := first | omega | (simp only [List.length_cons, List.length_nil, List.length_map, List.length_append, List.length_take, List.length_drop, List.length_replicate, List.length_set, mkG_len] <;> omega) | fail) only [push_cast, if_pos, decide_eq_true, decide_eq_false, simprocAttr, -Nat.reduceSubDiff]
  refine loop_ind (α := Nat) (fun i => i ≤ w.toNat) (fun i => ⟨[(0, .sc (.int .u64 (h / 256 ^ i))), (1, .sc (.int .i64 w)), (5, .sc (.string (strN (be i h)))), (6, .sc (.int .i64 i))], [], 1⟩) (fun i => w.toNat - i) 0 (Nat.zero_le _) ?_ ?_
  · simp -dsimp (disch := first | omega | (simp only [be, strN, Int.pow_zero, Int.ediv_one, List.length_cons, List.length_nil, List.length_map, List.length_append, List.length_take, List.length_drop, List.length_replicate, List.length_set, mkG_len] <;> omega) | fail) only [push_cast, if_pos, decide_eq_true, decide_eq_false, be, strN, Int.pow_zero, Int.ediv_one, simprocAttr, -Nat.reduceSubDiff]
    trace_state
  intro i hi ih
  by_cases h2 : (i : Int) < w
  · have e1 : 0 ≤ h / 256 ^ i := Int.ediv_nonneg h0 (Int.pow_nonneg (by decide))
    have e2 : h / 256 ^ i < 18446744073709551616 := Int.lt_of_le_of_lt (Int.ediv_le_self _ h0) h1
    have e3 : wr .u8 ((h / 256 ^ i).tmod 256) = h / 256 ^ i % 256 := by rw [wr_u8, Int.tmod_eq_emod_of_nonneg e1]; omega
    have e4 : wr .u64 ((h / 256 ^ i).tdiv 256) = h / 256 ^ (i + 1) := by
      rw [wr_u64, Int.tdiv_eq_ediv_of_nonneg e1, Int.pow_succ, ← Int.ediv_ediv_of_nonneg (Int.pow_nonneg (by decide))]
      have := Int.ediv_nonneg e1 (by decide : (0 : Int) ≤ 256)
      have := Int.ediv_le_self 256 e1
      omega
    simp -dsimp (disch := first | omega | (simp only [h2, e3, e4, strN_one, strN_size, be_len, strN_app, List.length_cons, List.length_nil, List.length_map, List.length_append, List.length_take, List.length_drop, List.length_replicate, List.length_set, mkG_len] <;> omega) | fail) only [push_cast, if_pos, decide_eq_true, decide_eq_false, h2, e3, e4, strN_one, strN_size, be_len, strN_app, simprocAttr, -Nat.reduceSubDiff]
    refine ih (i + 1) _ (by omega) (by omega) ?_
    simp -dsimp (disch := first | omega | (simp only [wr_id, be, List.length_cons, List.length_nil, List.length_map, List.length_append, List.length_take, List.length_drop, List.length_replicate, List.length_set, mkG_len] <;> omega) | fail) only [push_cast, if_pos, decide_eq_true, decide_eq_false, wr_id, be, simprocAttr, -Nat.reduceSubDiff]
  · have : w.toNat = i := by omega
    simp -dsimp (disch := first | omega | (simp only [h2, this, List.length_cons, List.length_nil, List.length_map, List.length_append, List.length_take, List.length_drop, List.length_replicate, List.length_set, mkG_len] <;> omega) | fail) only [push_cast, if_pos, decide_eq_true, decide_eq_false, h2, this, simprocAttr, -Nat.reduceSubDiff]
def E79 : Env := { T := T0, kp := look [(0, [0, 1]), (1, [0, 1]), (2, []), (3, [0, 1])] }
attribute [local push_cast] E79
theorem specSum (t : Str) (w : Int) (ht : t.size < 4611686018427387904) : Does Tryz.prog 79 [.sc (.string t), .sc (.int .i64 w)] (.sc (.string (sumS t w)), []) := by
  refine does_of (E := E79) (rs := [.tmp 4]) (lent := []) tOk rfl Tryz.func79 rfl (by decide) rfl rfl (Nat.le_of_ble_eq_true rfl) (Nat.le_of_ble_eq_true rfl) ?_
  simp -dsimp (disch := first | omega | (simp only [List.length_cons, List.length_nil, List.length_map, List.length_append, List.length_take, List.length_drop, List.length_replicate, List.length_set, mkG_len] <;> omega) | fail) only [push_cast, if_pos, decide_eq_true, decide_eq_false, simprocAttr, -Nat.reduceSubDiff]
  refine callC (l1Width ..) ?_
  by_cases h : 1 ≤ w ∧ w ≤ 8
  · simp -dsimp (disch := first | omega | (simp only [inB, h, sumS, and_self, List.length_cons, List.length_nil, List.length_map, List.length_append, List.length_take, List.length_drop, List.length_replicate, List.length_set, mkG_len] <;> omega) | fail) only [push_cast, if_pos, decide_eq_true, decide_eq_false, inB, h, sumS, and_self, simprocAttr, -Nat.reduceSubDiff]
    refine callC (l1Sum64 _ ht) ?_
    simp -dsimp (disch := first | omega | (simp only [List.length_cons, List.length_nil, List.length_map, List.length_append, List.length_take, List.length_drop, List.length_replicate, List.length_set, mkG_len] <;> omega) | fail) only [push_cast, if_pos, decide_eq_true, decide_eq_false, simprocAttr, -Nat.reduceSubDiff]
    have := hash64_r (bt t)
    refine callC (l1Bytes _ _ this.1 this.2 (by omega) h.2) ?_
    simp -dsimp (disch := first | omega | (simp only [sumS, List.length_cons, List.length_nil, List.length_map, List.length_append, List.length_take, List.length_drop, List.length_replicate, List.length_set, mkG_len] <;> omega) | fail) only [push_cast, if_pos, decide_eq_true, decide_eq_false, sumS, simprocAttr, -Nat.reduceSubDiff]
  · simp -dsimp (disch := first | omega | (simp only [inB, h, sumS, em, List.length_cons, List.length_nil, List.length_map, List.length_append, List.length_take, List.length_drop, List.length_replicate, List.length_set, mkG_len] <;> omega) | fail) only [push_cast, if_pos, decide_eq_true, decide_eq_false, inB, h, sumS, em, simprocAttr, -Nat.reduceSubDiff]
def E87 : Env := { T := T0, kp := look [(0, [0, 1]), (1, [0, 1]), (2, []), (3, [0, 1]), (4, [1, 5]), (5, [1, 5, 6]), (6, [1, 5, 6, 16, 17]), (7, [1, 5, 6, 16, 17]), (8, [1, 5, 6, 7, 16, 17]), (9, [1, 5, 6, 16, 17]), (10, [6])] }
attribute [local push_cast] E87
theorem implSum (t : Str) (w : Int) (ht : t.size < 4611686018427387904) : Does Tryz.prog 87 [.sc (.string t), .sc (.int .i64 w)] (.sc (.string (sumS t w)), []) := by
  by_cases h : 1 ≤ w ∧ w ≤ 8
  rotate_left
  · refine does_of (E := E87) (rs := [.tmp 4]) (lent := []) tOk rfl Tryz.func87 rfl (by decide) rfl rfl (Nat.le_of_ble_eq_true rfl) (Nat.le_of_ble_eq_true rfl) ?_
    simp -dsimp (disch := first | omega | (simp only [List.length_cons, List.length_nil, List.length_map, List.length_append, List.length_take, List.length_drop, List.length_replicate, List.length_set, mkG_len] <;> omega) | fail) only [push_cast, if_pos, decide_eq_true, decide_eq_false, simprocAttr, -Nat.reduceSubDiff]
    refine callC (widthOk ..) ?_
    simp -dsimp (disch := first | omega | (simp only [inB, h, sumS, em, List.length_cons, List.length_nil, List.length_map, List.length_append, List.length_take, List.length_drop, List.length_replicate, List.length_set, mkG_len] <;> omega) | fail) only [push_cast, if_pos, decide_eq_true, decide_eq_false, inB, h, sumS, em, simprocAttr, -Nat.reduceSubDiff]
  obtain ⟨n, rfl⟩ : ∃ n : Nat, w = n := ⟨w.toNat, by omega⟩
  rw [show sumS t n = strN (be n (hash64 (bt t))) by unfold sumS; rw [if_pos h]; rfl]
  refine does_of (E := E87) (rs := [.tmp 4]) (lent := []) tOk rfl Tryz.func87 rfl (by decide) rfl rfl (Nat.le_of_ble_eq_true rfl) (Nat.le_of_ble_eq_true rfl) ?_
  simp -dsimp (disch := first | omega | (simp only [List.length_cons, List.length_nil, List.length_map, List.length_append, List.length_take, List.length_drop, List.length_replicate, List.length_set, mkG_len] <;> omega) | fail) only [push_cast, if_pos, decide_eq_true, decide_eq_false, simprocAttr, -Nat.reduceSubDiff]
  refine callC (widthOk ..) ?_
  simp -dsimp (disch := first | omega | (simp only [inB, h, and_self, List.length_cons, List.length_nil, List.length_map, List.length_append, List.length_take, List.length_drop, List.length_replicate, List.length_set, mkG_len] <;> omega) | fail) only [push_cast, if_pos, decide_eq_true, decide_eq_false, inB, h, and_self, simprocAttr, -Nat.reduceSubDiff]
  refine callC (sum64 _ ht) ?_
  have hr := hash64_r (bt t)
  generalize hash64 (bt t) = H at hr ⊢
  simp -dsimp (disch := first | omega | (simp only [List.length_cons, List.length_nil, List.length_map, List.length_append, List.length_take, List.length_drop, List.length_replicate, List.length_set, mkG_len] <;> omega) | fail) only [push_cast, if_pos, decide_eq_true, decide_eq_false, simprocAttr, -Nat.reduceSubDiff]
  refine loop_ind (α := Nat) (fun i => i ≤ n) (fun i => ⟨[(1, .sc (.int .i64 n)), (5, .sc (.int .u64 H)), (6, .ow 1 0 n), (16, .sc (.int .i64 n)), (17, .sc (.int .i64 i))], [(1, .ar 1 0 (((be n H).take i ++ List.replicate (n - i) 0).map numR))], 2⟩) (fun i => n - i) 0 (Nat.zero_le _) ?_ ?_
  · simp -dsimp (disch := first | omega | (simp only [List.map_replicate, numR, Nat.sub_zero, List.length_cons, List.length_nil, List.length_map, List.length_append, List.length_take, List.length_drop, List.length_replicate, List.length_set, mkG_len] <;> omega) | fail) only [push_cast, if_pos, decide_eq_true, decide_eq_false, List.map_replicate, numR, Nat.sub_zero, simprocAttr, -Nat.reduceSubDiff]
  intro i hi ih
  by_cases h2 : i < n
  · obtain ⟨x, hx⟩ := ex_get (show i < ((be n H).take i ++ List.replicate (n - i) 0).length by simp [be_len]; omega)
    have e : wr .u8 (H.fdiv (2 ^ (min (8 * ((n : Int) - 1 - i)).toNat IntKind.u64.bits))) = H / 256 ^ (n - 1 - i) % 256 := by
      rw [show (8 * ((n : Int) - 1 - i)).toNat = 8 * (n - 1 - i) by omega,
        show IntKind.u64.bits = 64 from rfl, Nat.min_eq_left (by omega), Int.pow_mul, wr_u8, Int.fdiv_eq_ediv_of_nonneg _ (Int.pow_nonneg (by decide))]
      rfl
    simp -dsimp (disch := first | omega | (simp only [wr_id, e, hx, numR, List.length_cons, List.length_nil, List.length_map, List.length_append, List.length_take, List.length_drop, List.length_replicate, List.length_set, mkG_len] <;> omega) | fail) only [push_cast, if_pos, decide_eq_true, decide_eq_false, wr_id, e, hx, numR, simprocAttr, -Nat.reduceSubDiff]
    refine ih (i + 1) _ (by omega) h2 ?_
    have ee : (((be n H).take i ++ List.replicate (n - i) 0).map numR).set i [.sc (.int .u8 (H / 256 ^ (n - 1 - i) % 256))] = ((be n H).take (i + 1) ++ List.replicate (n - (i + 1)) 0).map numR := by
      rw [show ([.sc (.int .u8 (H / 256 ^ (n - 1 - i) % 256))] : Row) = numR (H / 256 ^ (n - 1 - i) % 256) from rfl, ← List.map_set, take_step (be_get n H i h2), List.set_append_right _ _ (by simp [be_len]; omega), show n - i = n - (i + 1) + 1 by omega, List.replicate_succ]
      simp [be_len, Nat.min_eq_left hi]
    simp -dsimp (disch := first | omega | (simp only [wr_id, ee, List.length_cons, List.length_nil, List.length_map, List.length_append, List.length_take, List.length_drop, List.length_replicate, List.length_set, mkG_len] <;> omega) | fail) only [push_cast, if_pos, decide_eq_true, decide_eq_false, wr_id, ee, simprocAttr, -Nat.reduceSubDiff]
  · have hn : i = n := by omega
    subst hn
    have e : (be i H).take i ++ List.replicate (i - i) 0 = be i H := by rw [List.take_of_length_le (by rw [be_len]; omega)]; simp
    simp -dsimp (disch := first | omega | (simp only [e, be_len, bytesOf_num, strN, List.length_cons, List.length_nil, List.length_map, List.length_append, List.length_take, List.length_drop, List.length_replicate, List.length_set, mkG_len] <;> omega) | fail) only [push_cast, if_pos, decide_eq_true, decide_eq_false, e, be_len, bytesOf_num, strN, simprocAttr, -Nat.reduceSubDiff]
end Go.Proofs.YtgkncgiglmdnaaaGreatDoor.Mx

/- Lists of texts: copied, measured, held against each other, marked. -/
namespace Go.Proofs.YtgkncgiglmdnaaaGreatDoor.Mx
set_option linter.all false
open Go Go.RowKit Go.Proofs
def E99 : Env := { T := T0, kp := look [(0, [0, 1]), (1, [0, 1]), (2, [0, 1]), (3, []), (4, [0, 1]), (5, [0, 1, 5]), (6, [0, 1, 5]), (7, [0, 1, 5]), (8, [0, 1, 5]), (9, []), (10, [1])] }
attribute [local push_cast] E99
theorem szStringS (l : List Str) (x : Int) (x0 : 0 ≤ x) (x1 : x ≤ 1048576) (hb : bdL bdStr l) : Does Tryz.prog 99 [.sl false 1 (l.map strR), .sc (.int .i64 x)] (.sc (.int .i64 (szL szStr l x)), []) := by
  refine does_of (E := E99) (rs := [.tmp 4]) (lent := []) tOk rfl Tryz.func99 rfl (by decide) rfl rfl (Nat.le_of_ble_eq_true rfl) (Nat.le_of_ble_eq_true rfl) ?_
  have hb1 := hb.1
  by_cases h0 : x - l.length < 0
  · simp -dsimp (disch := first | omega | (simp only [wr_id, szL, h0, List.length_cons, List.length_nil, List.length_map, List.length_append, List.length_take, List.length_drop, List.length_replicate, List.length_set, mkG_len] <;> omega) | fail) only [push_cast, if_pos, decide_eq_true, decide_eq_false, wr_id, szL, h0, simprocAttr, -Nat.reduceSubDiff]
  simp -dsimp (disch := first | omega | (simp only [wr_id, szL, h0, List.length_cons, List.length_nil, List.length_map, List.length_append, List.length_take, List.length_drop, List.length_replicate, List.length_set, mkG_len] <;> omega) | fail) only [push_cast, if_pos, decide_eq_true, decide_eq_false, wr_id, szL, h0, simprocAttr, -Nat.reduceSubDiff]
  refine loop_ind (α := Nat × Int) (fun p => p.1 ≤ l.length ∧ 0 ≤ p.2 ∧ p.2 ≤ x ∧ szG szStr (l.drop p.1) p.2 = szG szStr l (x - l.length)) (fun p => ⟨[(0, .sl false 1 (l.map strR)), (1, .sc (.int .i64 p.2)), (5, .sc (.int .i64 p.1))], [], 1⟩) (fun p => l.length - p.1) (0, x - l.length) ⟨Nat.zero_le _, by omega, by omega, rfl⟩ ?_ ?_
  · simp -dsimp (disch := first | omega | (simp only [List.length_cons, List.length_nil, List.length_map, List.length_append, List.length_take, List.length_drop, List.length_replicate, List.length_set, mkG_len] <;> omega) | fail) only [push_cast, if_pos, decide_eq_true, decide_eq_false, simprocAttr, -Nat.reduceSubDiff]
  rintro ⟨i, y⟩ ⟨hi, hy0, hy1, hy⟩ ih
  by_cases h : i < l.length
  · obtain ⟨s, hx⟩ := ex_get h
    have hs := hb.2 s (List.mem_of_getElem? hx)
    unfold bdStr at hs
    rw [drop_step hx, szG] at hy
    by_cases h2 : y - s.size < 0
    · simp -dsimp (disch := first | omega | (simp only [hx, strR, wr_id, szL, h0, ← hy, szStr, h2, List.length_cons, List.length_nil, List.length_map, List.length_append, List.length_take, List.length_drop, List.length_replicate, List.length_set, mkG_len] <;> omega) | fail) only [push_cast, if_pos, decide_eq_true, decide_eq_false, hx, strR, wr_id, szL, h0, ← hy, szStr, h2, simprocAttr, -Nat.reduceSubDiff]
    · simp -dsimp (disch := first | omega | (simp only [hx, strR, wr_id, List.length_cons, List.length_nil, List.length_map, List.length_append, List.length_take, List.length_drop, List.length_replicate, List.length_set, mkG_len] <;> omega) | fail) only [push_cast, if_pos, decide_eq_true, decide_eq_false, hx, strR, wr_id, simprocAttr, -Nat.reduceSubDiff]
      refine ih (i + 1, y - s.size) _ (by simp; omega) ⟨h, by simp only []; omega, by simp only []; omega, ?_⟩ ?_
      · rw [← hy, szStr, if_neg h2]
      · simp -dsimp (disch := first | omega | (simp only [wr_id, List.length_cons, List.length_nil, List.length_map, List.length_append, List.length_take, List.length_drop, List.length_replicate, List.length_set, mkG_len] <;> omega) | fail) only [push_cast, if_pos, decide_eq_true, decide_eq_false, wr_id, simprocAttr, -Nat.reduceSubDiff]
  · rw [List.drop_eq_nil_of_le (by omega), szG] at hy
    simp -dsimp (disch := first | omega | (simp only [szL, h0, ← hy, List.length_cons, List.length_nil, List.length_map, List.length_append, List.length_take, List.length_drop, List.length_replicate, List.length_set, mkG_len] <;> omega) | fail) only [push_cast, if_pos, decide_eq_true, decide_eq_false, szL, h0, ← hy, simprocAttr, -Nat.reduceSubDiff]
def E103 : Env := { T := T0, kp := look [(0, [0]), (1, [0]), (2, [0, 3]), (3, [0, 3, 4]), (4, [0, 3, 4]), (5, [0, 3, 4]), (6, [3])] }
attribute [local push_cast] E103
theorem toStringS (l : List Str) (hb : okL okStr l) : Does Tryz.prog 103 [.sl false 1 (l.map strR)] (.sl true 1 (l.map strR), []) := by
  refine does_of (E := E103) (rs := [.tmp 2]) (lent := []) tOk rfl Tryz.func103 rfl (by decide) rfl rfl (Nat.le_of_ble_eq_true rfl) (Nat.le_of_ble_eq_true rfl) ?_
  have hb1 := hb.1
  simp -dsimp (disch := first | omega | (simp only [List.length_cons, List.length_nil, List.length_map, List.length_append, List.length_take, List.length_drop, List.length_replicate, List.length_set, mkG_len] <;> omega) | fail) only [push_cast, if_pos, decide_eq_true, decide_eq_false, simprocAttr, -Nat.reduceSubDiff]
  refine loop_ind (α := Nat) (fun i => i ≤ l.length) (fun i => ⟨[(0, .sl false 1 (l.map strR)), (3, .ow 1 0 l.length), (4, .sc (.int .i64 i))], [(1, .ar 1 0 ((l.take i ++ (List.replicate l.length em).drop i).map strR))], 2⟩) (fun i => l.length - i) 0 (Nat.zero_le _) ?_ ?_
  · simp -dsimp (disch := first | omega | (simp only [List.map_replicate, strR, em, List.length_cons, List.length_nil, List.length_map, List.length_append, List.length_take, List.length_drop, List.length_replicate, List.length_set, mkG_len] <;> omega) | fail) only [push_cast, if_pos, decide_eq_true, decide_eq_false, List.map_replicate, strR, em, simprocAttr, -Nat.reduceSubDiff]
  intro i hi ih
  by_cases h : i < l.length
  · obtain ⟨s, hx⟩ := ex_get h
    have hw := get_over (a := l) (b := List.replicate l.length em) (by simp) hi
    rw [List.getElem?_replicate, if_pos h] at hw
    have ee := congrArg (List.map strR) (set_over (b := List.replicate l.length em) (by simp) hx)
    rw [List.map_set] at ee
    simp -dsimp (disch := first | omega | (simp only [hx, hw, strR, List.length_cons, List.length_nil, List.length_map, List.length_append, List.length_take, List.length_drop, List.length_replicate, List.length_set, mkG_len] <;> omega) | fail) only [push_cast, if_pos, decide_eq_true, decide_eq_false, hx, hw, strR, simprocAttr, -Nat.reduceSubDiff]
    refine ih (i + 1) _ (by omega) h ?_
    unfold strR at ee ⊢
    simp -dsimp (disch := first | omega | (simp only [wr_id, ee, List.length_cons, List.length_nil, List.length_map, List.length_append, List.length_take, List.length_drop, List.length_replicate, List.length_set, mkG_len] <;> omega) | fail) only [push_cast, if_pos, decide_eq_true, decide_eq_false, wr_id, ee, simprocAttr, -Nat.reduceSubDiff]
  · have hn : i = l.length := by omega
    subst hn
    simp -dsimp (disch := first | omega | (simp only [List.take_length, List.drop_eq_nil_of_le, List.length_cons, List.length_nil, List.length_map, List.length_append, List.length_take, List.length_drop, List.length_replicate, List.length_set, mkG_len] <;> omega) | fail) only [push_cast, if_pos, decide_eq_true, decide_eq_false, List.take_length, List.drop_eq_nil_of_le, simprocAttr, -Nat.reduceSubDiff]
def E33 : Env := { T := T0, kp := look [(0, [0, 1]), (1, [0, 1]), (2, []), (3, [0, 1]), (4, [0, 1, 5]), (5, [0, 1, 5]), (6, [0, 1, 5]), (7, []), (8, [])], dp := look2 [(6, [[], [], [0, 1], [0, 1, 2], [], [], [4, 5], [4, 5, 6], [0, 1, 2, 3, 4, 5, 6, 7]])] }
attribute [local push_cast] E33
theorem eqStringS (a b : List Str) (hb : okL okStr b) : Does Tryz.prog 33 [.sl false 1 (a.map strR), .sl false 1 (b.map strR)] (.sc (.bool (decide (a = b))), []) := by
  refine does_of (E := E33) (rs := [.tmp 4]) (lent := []) tOk rfl Tryz.func33 rfl (by decide) rfl rfl (Nat.le_of_ble_eq_true rfl) (Nat.le_of_ble_eq_true rfl) ?_
  have hb1 := hb.1
  by_cases hl : a.length = b.length
  rotate_left
  · have : a ≠ b := fun h => hl (by rw [h])
    simp -dsimp (disch := first | omega | (simp only [this, List.length_cons, List.length_nil, List.length_map, List.length_append, List.length_take, List.length_drop, List.length_replicate, List.length_set, mkG_len] <;> omega) | fail) only [push_cast, if_pos, decide_eq_true, decide_eq_false, this, simprocAttr, -Nat.reduceSubDiff]
  simp -dsimp (disch := first | omega | (simp only [hl, List.length_cons, List.length_nil, List.length_map, List.length_append, List.length_take, List.length_drop, List.length_replicate, List.length_set, mkG_len] <;> omega) | fail) only [push_cast, if_pos, decide_eq_true, decide_eq_false, hl, simprocAttr, -Nat.reduceSubDiff]
  refine loop_ind (α := Nat) (fun i => i ≤ b.length ∧ a.take i = b.take i) (fun i => ⟨[(0, .sl false 1 (a.map strR)), (1, .sl false 1 (b.map strR)), (5, .sc (.int .i64 i))], [], 1⟩) (fun i => b.length - i) 0 ⟨Nat.zero_le _, rfl⟩ ?_ ?_
  · simp -dsimp (disch := first | omega | (simp only [List.length_cons, List.length_nil, List.length_map, List.length_append, List.length_take, List.length_drop, List.length_replicate, List.length_set, mkG_len] <;> omega) | fail) only [push_cast, if_pos, decide_eq_true, decide_eq_false, simprocAttr, -Nat.reduceSubDiff]
  intro i hi ih
  by_cases h : i < b.length
  · obtain ⟨x, hx⟩ := ex_get (hl ▸ h : i < a.length)
    obtain ⟨y, hy⟩ := ex_get h
    by_cases e : x = y
    · (simp -dsimp (disch := first | omega | (simp only [hx, hy, strR, e, List.length_cons, List.length_nil, List.length_map, List.length_append, List.length_take, List.length_drop, List.length_replicate, List.length_set, mkG_len] <;> omega) | fail) only [push_cast, if_pos, decide_eq_true, decide_eq_false, hx, hy, strR, e, simprocAttr, -Nat.reduceSubDiff]) <;> (repeat (refine (aw_draw (by kernel_rfl)).2 ?_; simp -dsimp (disch := first | omega | (simp only [hx, hy, strR, e, List.length_cons, List.length_nil, List.length_map, List.length_append, List.length_take, List.length_drop, List.length_replicate, List.length_set, mkG_len] <;> omega) | fail) only [push_cast, if_pos, decide_eq_true, decide_eq_false, hx, hy, strR, e, simprocAttr, -Nat.reduceSubDiff]))
      refine ih (i + 1) _ (by omega) ⟨h, by rw [take_step hx, take_step hy, hi.2, e]⟩ ?_
      simp -dsimp (disch := first | omega | (simp only [wr_id, List.length_cons, List.length_nil, List.length_map, List.length_append, List.length_take, List.length_drop, List.length_replicate, List.length_set, mkG_len] <;> omega) | fail) only [push_cast, if_pos, decide_eq_true, decide_eq_false, wr_id, simprocAttr, -Nat.reduceSubDiff]
    · have : a ≠ b := fun h' => e (by rw [h', hy] at hx; cases hx; rfl)
      (simp -dsimp (disch := first | omega | (simp only [hx, hy, strR, e, this, List.length_cons, List.length_nil, List.length_map, List.length_append, List.length_take, List.length_drop, List.length_replicate, List.length_set, mkG_len] <;> omega) | fail) only [push_cast, if_pos, decide_eq_true, decide_eq_false, hx, hy, strR, e, this, simprocAttr, -Nat.reduceSubDiff]) <;> (repeat (refine (aw_draw (by kernel_rfl)).2 ?_; simp -dsimp (disch := first | omega | (simp only [hx, hy, strR, e, this, List.length_cons, List.length_nil, List.length_map, List.length_append, List.length_take, List.length_drop, List.length_replicate, List.length_set, mkG_len] <;> omega) | fail) only [push_cast, if_pos, decide_eq_true, decide_eq_false, hx, hy, strR, e, this, simprocAttr, -Nat.reduceSubDiff]))
  · have : a = b := by
      have := hi.2
      rwa [List.take_of_length_le (by omega), List.take_of_length_le (by omega)] at this
    simp -dsimp (disch := first | omega | (simp only [this, List.length_cons, List.length_nil, List.length_map, List.length_append, List.length_take, List.length_drop, List.length_replicate, List.length_set, mkG_len] <;> omega) | fail) only [push_cast, if_pos, decide_eq_true, decide_eq_false, this, simprocAttr, -Nat.reduceSubDiff]
def E110 : Env := { T := T0, kp := look [(0, [0]), (1, [0]), (2, []), (3, [0]), (4, [0, 3]), (5, [0, 3]), (6, [0, 3]), (7, [3])] }
attribute [local push_cast] E110
theorem markText (k : Int) (hk : k < 2305843009213693952) : Does Tryz.prog 110 [.sc (.int .i64 k)] (.sc (.string (mtx k)), []) := by
  refine does_of (E := E110) (rs := [.tmp 2]) (lent := []) tOk rfl Tryz.func110 rfl (by decide) rfl rfl (Nat.le_of_ble_eq_true rfl) (Nat.le_of_ble_eq_true rfl) ?_
  by_cases h0 : k ≤ 0
  · simp -dsimp (disch := first | omega | (simp only [mtx, List.length_cons, List.length_nil, List.length_map, List.length_append, List.length_take, List.length_drop, List.length_replicate, List.length_set, mkG_len] <;> omega) | fail) only [push_cast, if_pos, decide_eq_true, decide_eq_false, mtx, simprocAttr, -Nat.reduceSubDiff]
    rfl
  obtain ⟨n, rfl⟩ : ∃ n : Nat, k = n := ⟨k.toNat, by omega⟩
  simp -dsimp (disch := first | omega | (simp only [List.length_cons, List.length_nil, List.length_map, List.length_append, List.length_take, List.length_drop, List.length_replicate, List.length_set, mkG_len] <;> omega) | fail) only [push_cast, if_pos, decide_eq_true, decide_eq_false, simprocAttr, -Nat.reduceSubDiff]
  refine loop_ind (α := Nat × List Int) (fun p => p.1 < 2305843009213693952 ∧ dig n = dig p.1 ++ p.2) (fun p => ⟨[(0, .sc (.int .i64 p.1)), (3, .sc (.string (strN p.2)))], [], 1⟩) (fun p => p.1) (n, []) ⟨by simp only []; omega, by simp⟩ ?_ ?_
  · simp -dsimp (disch := first | omega | (simp only [strN, List.length_cons, List.length_nil, List.length_map, List.length_append, List.length_take, List.length_drop, List.length_replicate, List.length_set, mkG_len] <;> omega) | fail) only [push_cast, if_pos, decide_eq_true, decide_eq_false, strN, simprocAttr, -Nat.reduceSubDiff]
  rintro ⟨m, l⟩ ⟨hm, hl⟩ ih
  dsimp only at hm hl
  have hn := dig_len n
  have hs : 1 + (l.length : Int) ≤ 4611686018427387904 := by rw [hl, List.length_append] at hn; omega
  by_cases h : m = 0
  · subst h
    rw [show dig 0 = [] by unfold dig; rfl] at hl
    have e : mtx n = strN [109] ++ strN l := by unfold mtx; rw [if_neg h0, Int.toNat_natCast, hl, strN_app]; rfl
    simp -dsimp (disch := first | omega | (simp only [e, show (⟨#[109]⟩ : ByteArray) = strN [109] from rfl, strN_size, List.length_cons, List.length_nil, List.length_map, List.length_append, List.length_take, List.length_drop, List.length_replicate, List.length_set, mkG_len] <;> omega) | fail) only [push_cast, if_pos, decide_eq_true, decide_eq_false, e, show (⟨#[109]⟩ : ByteArray) = strN [109] from rfl, strN_size, simprocAttr, -Nat.reduceSubDiff]
  · have e1 : ((m : Int).tmod 10) = (m : Int) % 10 := rfl
    have e2 : wr .u8 (48 + (m : Int) % 10) = 48 + (m : Int) % 10 := by rw [wr_u8]; omega
    have e3 : ((m : Int).tdiv 10) = (m : Int) / 10 := rfl
    simp -dsimp (disch := first | omega | (simp only [wr_id, e1, e2, e3, strN_one, strN_size, strN_app, List.length_cons, List.length_nil, List.length_map, List.length_append, List.length_take, List.length_drop, List.length_replicate, List.length_set, mkG_len] <;> omega) | fail) only [push_cast, if_pos, decide_eq_true, decide_eq_false, wr_id, e1, e2, e3, strN_one, strN_size, strN_app, simprocAttr, -Nat.reduceSubDiff]
    refine ih (m / 10, (48 + (m : Int) % 10) :: l) _ (by simp; omega) ⟨by simp only []; omega, ?_⟩ ?_
    · rw [hl]; conv => lhs; unfold dig; rw [dif_neg h]
      simp
    · simp -dsimp (disch := first | omega | (simp only [List.length_cons, List.length_nil, List.length_map, List.length_append, List.length_take, List.length_drop, List.length_replicate, List.length_set, mkG_len] <;> omega) | fail) only [push_cast, if_pos, decide_eq_true, decide_eq_false, simprocAttr, -Nat.reduceSubDiff]

def E35 : Env := { T := T0, kp := look [(0, [0, 1]), (1, [0, 1]), (2, [0, 1, 5]), (3, [0, 1, 5]), (4, [0, 1, 5]), (5, [0, 1, 5]), (6, [0, 1])] }
attribute [local push_cast] E35
theorem markStringS (l : List Str) (k : Int) (k0 : 0 ≤ k) (k1 : k + cnG c1 l < 2305843009213693952) : Does Tryz.prog 35 [.sl true 1 (l.map strR), .sc (.int .i64 k)] (.sc (.int .i64 (k + cnG c1 l)), [some (.sl true 1 ((mkG mkStr c1 l k).map strR))]) := by
  refine does_of (E := E35) (rs := [.tmp 4]) (lent := [true]) tOk rfl Tryz.func35 rfl (by decide) rfl rfl (Nat.le_of_ble_eq_true rfl) (Nat.le_of_ble_eq_true rfl) ?_
  have hM := mkG_len mkStr c1 l k
  generalize hm : mkG mkStr c1 l k = M at hM ⊢
  rw [cn1] at k1 ⊢
  simp -dsimp (disch := first | omega | (simp only [List.length_cons, List.length_nil, List.length_map, List.length_append, List.length_take, List.length_drop, List.length_replicate, List.length_set, mkG_len] <;> omega) | fail) only [push_cast, if_pos, decide_eq_true, decide_eq_false, simprocAttr, -Nat.reduceSubDiff]
  refine loop_ind (α := Nat) (fun i => i ≤ l.length) (fun i => ⟨[(0, .ow 1 0 l.length), (1, .sc (.int .i64 (k + i))), (5, .sc (.int .i64 i))], [(1, .ar 1 0 ((M.take i ++ l.drop i).map strR))], 2⟩) (fun i => l.length - i) 0 (Nat.zero_le _) ?_ ?_
  · simp -dsimp (disch := first | omega | (simp only [Int.add_zero, List.take_zero, List.drop_zero, List.length_cons, List.length_nil, List.length_map, List.length_append, List.length_take, List.length_drop, List.length_replicate, List.length_set, mkG_len] <;> omega) | fail) only [push_cast, if_pos, decide_eq_true, decide_eq_false, Int.add_zero, List.take_zero, List.drop_zero, simprocAttr, -Nat.reduceSubDiff]
  intro i hi ih
  by_cases h : i < l.length
  · obtain ⟨s, hx⟩ := ex_get h
    have hw := (get_over (a := M) (b := l) hM (by omega)).trans hx
    have hy : M[i]? = some (mtx (k + i)) := by rw [← hm, mkG_step hx, cn1, List.length_take, Nat.min_eq_left (by omega)]
    have ee := congrArg (List.map strR) (set_over hM hy)
    rw [List.map_set] at ee
    simp -dsimp (disch := first | omega | (simp only [List.length_cons, List.length_nil, List.length_map, List.length_append, List.length_take, List.length_drop, List.length_replicate, List.length_set, mkG_len] <;> omega) | fail) only [push_cast, if_pos, decide_eq_true, decide_eq_false, simprocAttr, -Nat.reduceSubDiff]
    refine callC (markText _ (by omega)) ?_
    simp -dsimp (disch := first | omega | (simp only [hw, List.length_cons, List.length_nil, List.length_map, List.length_append, List.length_take, List.length_drop, List.length_replicate, List.length_set, mkG_len] <;> omega) | fail) only [push_cast, if_pos, decide_eq_true, decide_eq_false, hw, simprocAttr, -Nat.reduceSubDiff]
    refine ih (i + 1) _ (by omega) h ?_
    unfold strR at ee ⊢
    simp -dsimp (disch := first | omega | (simp only [wr_id, ee, Int.add_assoc, List.length_cons, List.length_nil, List.length_map, List.length_append, List.length_take, List.length_drop, List.length_replicate, List.length_set, mkG_len] <;> omega) | fail) only [push_cast, if_pos, decide_eq_true, decide_eq_false, wr_id, ee, Int.add_assoc, simprocAttr, -Nat.reduceSubDiff]
  · have hn : i = l.length := by omega
    subst hn
    simp -dsimp (disch := first | omega | (simp only [List.take_of_length_le, List.drop_eq_nil_of_le, hM, Nat.le_refl, List.length_cons, List.length_nil, List.length_map, List.length_append, List.length_take, List.length_drop, List.length_replicate, List.length_set, mkG_len] <;> omega) | fail) only [push_cast, if_pos, decide_eq_true, decide_eq_false, List.take_of_length_le, List.drop_eq_nil_of_le, hM, Nat.le_refl, simprocAttr, -Nat.reduceSubDiff]
def E36 : Env := { T := T0, kp := look [(0, [0, 1]), (1, [0, 1]), (2, [0, 1, 5]), (3, [0, 1, 5]), (4, [0, 1, 5]), (5, []), (6, [0, 1, 5]), (7, [1])], dp := look2 [(4, [[], [], [0, 1], [0, 1, 2], [], [4], [0, 1, 2, 3, 4, 5]])] }
attribute [local push_cast] E36
theorem heldStringS (l : List Str) (k : Int) (k0 : 0 ≤ k) (k1 : k + cnG c1 l < 2305843009213693952) : Does Tryz.prog 36 [.sl false 1 (l.map strR), .sc (.int .i64 k)] (.sc (.int .i64 (hdG hdStr c1 l k)), []) := by
  refine does_of (E := E36) (rs := [.tmp 4]) (lent := []) tOk rfl Tryz.func36 rfl (by decide) rfl rfl (Nat.le_of_ble_eq_true rfl) (Nat.le_of_ble_eq_true rfl) ?_
  generalize hm : hdG hdStr c1 l k = M
  rw [cn1] at k1
  simp -dsimp (disch := first | omega | (simp only [List.length_cons, List.length_nil, List.length_map, List.length_append, List.length_take, List.length_drop, List.length_replicate, List.length_set, mkG_len] <;> omega) | fail) only [push_cast, if_pos, decide_eq_true, decide_eq_false, simprocAttr, -Nat.reduceSubDiff]
  refine loop_ind (α := Nat) (fun i => i ≤ l.length ∧ hdG hdStr c1 (l.drop i) (k + i) = M) (fun i => ⟨[(0, .sl false 1 (l.map strR)), (1, .sc (.int .i64 (k + i))), (5, .sc (.int .i64 i))], [], 1⟩) (fun i => l.length - i) 0 ⟨Nat.zero_le _, by simpa using hm⟩ ?_ ?_
  · simp -dsimp (disch := first | omega | (simp only [Int.add_zero, List.length_cons, List.length_nil, List.length_map, List.length_append, List.length_take, List.length_drop, List.length_replicate, List.length_set, mkG_len] <;> omega) | fail) only [push_cast, if_pos, decide_eq_true, decide_eq_false, Int.add_zero, simprocAttr, -Nat.reduceSubDiff]
  rintro i ⟨hi, hy⟩ ih
  by_cases h : i < l.length
  · obtain ⟨s, hx⟩ := ex_get h
    rw [drop_step hx, hdG] at hy
    (simp -dsimp (disch := first | omega | (simp only [hx, List.length_cons, List.length_nil, List.length_map, List.length_append, List.length_take, List.length_drop, List.length_replicate, List.length_set, mkG_len] <;> omega) | fail) only [push_cast, if_pos, decide_eq_true, decide_eq_false, hx, simprocAttr, -Nat.reduceSubDiff]) <;> (repeat (refine (aw_draw (by kernel_rfl)).2 ?_; simp -dsimp (disch := first | omega | (simp only [hx, List.length_cons, List.length_nil, List.length_map, List.length_append, List.length_take, List.length_drop, List.length_replicate, List.length_set, mkG_len] <;> omega) | fail) only [push_cast, if_pos, decide_eq_true, decide_eq_false, hx, simprocAttr, -Nat.reduceSubDiff]))
    refine callC (markText _ (by omega)) ?_
    by_cases e : s = mtx (k + i)
    · rw [if_pos (by simp [e])] at hy
      simp -dsimp (disch := first | omega | (simp only [e, List.length_cons, List.length_nil, List.length_map, List.length_append, List.length_take, List.length_drop, List.length_replicate, List.length_set, mkG_len] <;> omega) | fail) only [push_cast, if_pos, decide_eq_true, decide_eq_false, e, simprocAttr, -Nat.reduceSubDiff]
      refine ih (i + 1) _ (by omega) ⟨h, by rw [← hy, show k + ((i + 1 : Nat) : Int) = k + i + c1 s by show _ = k + i + 1; omega]⟩ ?_
      simp -dsimp (disch := first | omega | (simp only [wr_id, Int.add_assoc, List.length_cons, List.length_nil, List.length_map, List.length_append, List.length_take, List.length_drop, List.length_replicate, List.length_set, mkG_len] <;> omega) | fail) only [push_cast, if_pos, decide_eq_true, decide_eq_false, wr_id, Int.add_assoc, simprocAttr, -Nat.reduceSubDiff]
    · rw [if_neg (by simp [e])] at hy
      simp -dsimp (disch := first | omega | (simp only [e, ← hy, List.length_cons, List.length_nil, List.length_map, List.length_append, List.length_take, List.length_drop, List.length_replicate, List.length_set, mkG_len] <;> omega) | fail) only [push_cast, if_pos, decide_eq_true, decide_eq_false, e, ← hy, simprocAttr, -Nat.reduceSubDiff]
  · rw [List.drop_eq_nil_of_le (by omega), hdG] at hy
    simp -dsimp (disch := first | omega | (simp only [← hy, List.length_cons, List.length_nil, List.length_map, List.length_append, List.length_take, List.length_drop, List.length_replicate, List.length_set, mkG_len] <;> omega) | fail) only [push_cast, if_pos, decide_eq_true, decide_eq_false, ← hy, simprocAttr, -Nat.reduceSubDiff]
end Go.Proofs.YtgkncgiglmdnaaaGreatDoor.Mx

/- The laws' helpers run (By fam.py of this session.) -/
namespace Go.Proofs.YtgkncgiglmdnaaaGreatDoor.Mx
set_option linter.all false
open Go Go.RowKit Go.Proofs
set_option linter.unusedSimpArgs false
set_option linter.unusedVariables false
def E165 : Env := { T := T0, kp := look [(0, [0, 1]), (1, [2, 3]), (2, []), (3, [2, 3]), (4, []), (5, [])] }
attribute [local push_cast] E165
theorem eqItem (x y : Item) (hy : okItem y) : Does Tryz.prog 165 [.ag (itemC false x), .ag (itemC false y)] (.sc (.bool (decide (x = y))), []) := by
  refine does_of (E := E165) (rs := [.tmp 4]) (lent := []) tOk rfl Tryz.func165 rfl (by decide) rfl rfl (Nat.le_of_ble_eq_true rfl) (Nat.le_of_ble_eq_true rfl) ?_
  by_cases e0 : x.t = y.t
  rotate_left
  · have hn : x ≠ y := fun h => e0 (by rw [h])
    (simp -dsimp (disch := first | omega | (simp only [e0, hn, List.length_cons, List.length_nil, List.length_map, List.length_append, List.length_take, List.length_drop, List.length_replicate, List.length_set, mkG_len] <;> omega) | fail) only [push_cast, if_pos, decide_eq_true, decide_eq_false, e0, hn, simprocAttr, -Nat.reduceSubDiff]) <;> (repeat (refine (aw_draw (by kernel_rfl)).2 ?_; simp -dsimp (disch := first | omega | (simp only [e0, hn, List.length_cons, List.length_nil, List.length_map, List.length_append, List.length_take, List.length_drop, List.length_replicate, List.length_set, mkG_len] <;> omega) | fail) only [push_cast, if_pos, decide_eq_true, decide_eq_false, e0, hn, simprocAttr, -Nat.reduceSubDiff]))
  (simp -dsimp (disch := first | omega | (simp only [e0, List.length_cons, List.length_nil, List.length_map, List.length_append, List.length_take, List.length_drop, List.length_replicate, List.length_set, mkG_len] <;> omega) | fail) only [push_cast, if_pos, decide_eq_true, decide_eq_false, e0, simprocAttr, -Nat.reduceSubDiff]) <;> (repeat (refine (aw_draw (by kernel_rfl)).2 ?_; simp -dsimp (disch := first | omega | (simp only [e0, List.length_cons, List.length_nil, List.length_map, List.length_append, List.length_take, List.length_drop, List.length_replicate, List.length_set, mkG_len] <;> omega) | fail) only [push_cast, if_pos, decide_eq_true, decide_eq_false, e0, simprocAttr, -Nat.reduceSubDiff]))
  by_cases e1 : x.u = y.u
  rotate_left
  · have hn : x ≠ y := fun h => e1 (by rw [h])
    (simp -dsimp (disch := first | omega | (simp only [e1, hn, List.length_cons, List.length_nil, List.length_map, List.length_append, List.length_take, List.length_drop, List.length_replicate, List.length_set, mkG_len] <;> omega) | fail) only [push_cast, if_pos, decide_eq_true, decide_eq_false, e1, hn, simprocAttr, -Nat.reduceSubDiff]) <;> (repeat (refine (aw_draw (by kernel_rfl)).2 ?_; simp -dsimp (disch := first | omega | (simp only [e1, hn, List.length_cons, List.length_nil, List.length_map, List.length_append, List.length_take, List.length_drop, List.length_replicate, List.length_set, mkG_len] <;> omega) | fail) only [push_cast, if_pos, decide_eq_true, decide_eq_false, e1, hn, simprocAttr, -Nat.reduceSubDiff]))
  have hn : x = y := by cases x; cases y; simp_all
  (simp -dsimp (disch := first | omega | (simp only [e1, hn, List.length_cons, List.length_nil, List.length_map, List.length_append, List.length_take, List.length_drop, List.length_replicate, List.length_set, mkG_len] <;> omega) | fail) only [push_cast, if_pos, decide_eq_true, decide_eq_false, e1, hn, simprocAttr, -Nat.reduceSubDiff]) <;> (repeat (refine (aw_draw (by kernel_rfl)).2 ?_; simp -dsimp (disch := first | omega | (simp only [e1, hn, List.length_cons, List.length_nil, List.length_map, List.length_append, List.length_take, List.length_drop, List.length_replicate, List.length_set, mkG_len] <;> omega) | fail) only [push_cast, if_pos, decide_eq_true, decide_eq_false, e1, hn, simprocAttr, -Nat.reduceSubDiff]))
def E106 : Env := { T := T0, kp := look [(0, [0, 1]), (1, [0, 1]), (2, []), (3, [0, 1]), (4, [0, 1, 5]), (5, [0, 1, 5]), (6, [0, 1, 5]), (7, []), (8, [])], dp := look2 [(6, [[], [], [0, 1], [0, 1, 2], [], [], [4, 5], [4, 5, 6], [0, 1, 2, 3, 4, 5, 6, 7], [0, 1, 2, 3, 4, 5, 6, 7, 8]])] }
attribute [local push_cast] E106
theorem eqItemS (a b : List Item) (hb : okL okItem b) : Does Tryz.prog 106 [.sl false 2 (a.map (itemC false)), .sl false 2 (b.map (itemC false))] (.sc (.bool (decide (a = b))), []) := by
  refine does_of (E := E106) (rs := [.tmp 4]) (lent := []) tOk rfl Tryz.func106 rfl (by decide) rfl rfl (Nat.le_of_ble_eq_true rfl) (Nat.le_of_ble_eq_true rfl) ?_
  have hb1 := hb.1
  by_cases hl : a.length = b.length
  rotate_left
  · have : a ≠ b := fun h => hl (by rw [h])
    simp -dsimp (disch := first | omega | (simp only [this, List.length_cons, List.length_nil, List.length_map, List.length_append, List.length_take, List.length_drop, List.length_replicate, List.length_set, mkG_len] <;> omega) | fail) only [push_cast, if_pos, decide_eq_true, decide_eq_false, this, simprocAttr, -Nat.reduceSubDiff]
  simp -dsimp (disch := first | omega | (simp only [hl, List.length_cons, List.length_nil, List.length_map, List.length_append, List.length_take, List.length_drop, List.length_replicate, List.length_set, mkG_len] <;> omega) | fail) only [push_cast, if_pos, decide_eq_true, decide_eq_false, hl, simprocAttr, -Nat.reduceSubDiff]
  refine loop_ind (α := Nat) (fun i => i ≤ b.length ∧ a.take i = b.take i) (fun i => ⟨[(0, .sl false 2 (a.map (itemC false))), (1, .sl false 2 (b.map (itemC false))), (5, .sc (.int .i64 i))], [], 1⟩) (fun i => b.length - i) 0 ⟨Nat.zero_le _, rfl⟩ ?_ ?_
  · simp -dsimp (disch := first | omega | (simp only [List.length_cons, List.length_nil, List.length_map, List.length_append, List.length_take, List.length_drop, List.length_replicate, List.length_set, mkG_len] <;> omega) | fail) only [push_cast, if_pos, decide_eq_true, decide_eq_false, simprocAttr, -Nat.reduceSubDiff]
  intro i hi ih
  by_cases h : i < b.length
  · obtain ⟨x, hx⟩ := ex_get (hl ▸ h : i < a.length)
    obtain ⟨y, hy⟩ := ex_get h
    (simp -dsimp (disch := first | omega | (simp only [hx, hy, List.length_cons, List.length_nil, List.length_map, List.length_append, List.length_take, List.length_drop, List.length_replicate, List.length_set, mkG_len] <;> omega) | fail) only [push_cast, if_pos, decide_eq_true, decide_eq_false, hx, hy, simprocAttr, -Nat.reduceSubDiff]) <;> (repeat (refine (aw_draw (by kernel_rfl)).2 ?_; simp -dsimp (disch := first | omega | (simp only [hx, hy, List.length_cons, List.length_nil, List.length_map, List.length_append, List.length_take, List.length_drop, List.length_replicate, List.length_set, mkG_len] <;> omega) | fail) only [push_cast, if_pos, decide_eq_true, decide_eq_false, hx, hy, simprocAttr, -Nat.reduceSubDiff]))
    refine callC (eqItem x y (hb.2 y (List.mem_of_getElem? hy))) ?_
    by_cases e : x = y
    · simp -dsimp (disch := first | omega | (simp only [e, List.length_cons, List.length_nil, List.length_map, List.length_append, List.length_take, List.length_drop, List.length_replicate, List.length_set, mkG_len] <;> omega) | fail) only [push_cast, if_pos, decide_eq_true, decide_eq_false, e, simprocAttr, -Nat.reduceSubDiff]
      refine ih (i + 1) _ (by omega) ⟨h, by rw [take_step hx, take_step hy, hi.2, e]⟩ ?_
      simp -dsimp (disch := first | omega | (simp only [wr_id, List.length_cons, List.length_nil, List.length_map, List.length_append, List.length_take, List.length_drop, List.length_replicate, List.length_set, mkG_len] <;> omega) | fail) only [push_cast, if_pos, decide_eq_true, decide_eq_false, wr_id, simprocAttr, -Nat.reduceSubDiff]
    · have : a ≠ b := fun h' => e (by rw [h', hy] at hx; cases hx; rfl)
      simp -dsimp (disch := first | omega | (simp only [e, this, List.length_cons, List.length_nil, List.length_map, List.length_append, List.length_take, List.length_drop, List.length_replicate, List.length_set, mkG_len] <;> omega) | fail) only [push_cast, if_pos, decide_eq_true, decide_eq_false, e, this, simprocAttr, -Nat.reduceSubDiff]
  · have : a = b := by
      have := hi.2
      rwa [List.take_of_length_le (by omega), List.take_of_length_le (by omega)] at this
    simp -dsimp (disch := first | omega | (simp only [this, List.length_cons, List.length_nil, List.length_map, List.length_append, List.length_take, List.length_drop, List.length_replicate, List.length_set, mkG_len] <;> omega) | fail) only [push_cast, if_pos, decide_eq_true, decide_eq_false, this, simprocAttr, -Nat.reduceSubDiff]
def E162 : Env := { T := T0, kp := look [(0, [0, 1]), (1, [1, 2]), (2, [1]), (3, []), (4, [1])] }
attribute [local push_cast] E162
theorem szItem_run (a : Item) (x : Int) (x0 : 0 ≤ x) (x1 : x ≤ 1048576) (hb : bdItem a) : Does Tryz.prog 162 [.ag (itemC false a), .sc (.int .i64 x)] (.sc (.int .i64 (szItem a x)), []) := by
  refine does_of (E := E162) (rs := [.tmp 4]) (lent := []) tOk rfl Tryz.func162 rfl (by decide) rfl rfl (Nat.le_of_ble_eq_true rfl) (Nat.le_of_ble_eq_true rfl) ?_
  unfold bdItem at hb
  have b0 : a.t.size ≤ 9223372036854775807 := hb
  by_cases n0 : x - a.t.size < 0
  · have hv : szItem a x = -1 := by unfold szItem; rw [if_pos n0]
    (simp -dsimp (disch := first | omega | (simp only [wr_id, hv, List.length_cons, List.length_nil, List.length_map, List.length_append, List.length_take, List.length_drop, List.length_replicate, List.length_set, mkG_len] <;> omega) | fail) only [push_cast, if_pos, decide_eq_true, decide_eq_false, wr_id, hv, simprocAttr, -Nat.reduceSubDiff]) <;> (repeat (refine (aw_draw (by kernel_rfl)).2 ?_; simp -dsimp (disch := first | omega | (simp only [wr_id, hv, List.length_cons, List.length_nil, List.length_map, List.length_append, List.length_take, List.length_drop, List.length_replicate, List.length_set, mkG_len] <;> omega) | fail) only [push_cast, if_pos, decide_eq_true, decide_eq_false, wr_id, hv, simprocAttr, -Nat.reduceSubDiff]))
  have hv : szItem a x = x - a.t.size := by unfold szItem; rw [if_neg n0]
  (simp -dsimp (disch := first | omega | (simp only [wr_id, hv, List.length_cons, List.length_nil, List.length_map, List.length_append, List.length_take, List.length_drop, List.length_replicate, List.length_set, mkG_len] <;> omega) | fail) only [push_cast, if_pos, decide_eq_true, decide_eq_false, wr_id, hv, simprocAttr, -Nat.reduceSubDiff]) <;> (repeat (refine (aw_draw (by kernel_rfl)).2 ?_; simp -dsimp (disch := first | omega | (simp only [wr_id, hv, List.length_cons, List.length_nil, List.length_map, List.length_append, List.length_take, List.length_drop, List.length_replicate, List.length_set, mkG_len] <;> omega) | fail) only [push_cast, if_pos, decide_eq_true, decide_eq_false, wr_id, hv, simprocAttr, -Nat.reduceSubDiff]))
def E98 : Env := { T := T0, kp := look [(0, [0, 1]), (1, [0, 1]), (2, [0, 1]), (3, []), (4, [0, 1]), (5, [0, 1, 5]), (6, [0, 1, 5]), (7, [0, 1, 5]), (8, [0, 1, 5]), (9, []), (10, [1])] }
attribute [local push_cast] E98
theorem szItemS (l : List Item) (x : Int) (x0 : 0 ≤ x) (x1 : x ≤ 1048576) (hb : bdL bdItem l) : Does Tryz.prog 98 [.sl false 2 (l.map (itemC false)), .sc (.int .i64 x)] (.sc (.int .i64 (szL szItem l x)), []) := by
  refine does_of (E := E98) (rs := [.tmp 4]) (lent := []) tOk rfl Tryz.func98 rfl (by decide) rfl rfl (Nat.le_of_ble_eq_true rfl) (Nat.le_of_ble_eq_true rfl) ?_
  have hb1 := hb.1
  by_cases h0 : x - l.length < 0
  · simp -dsimp (disch := first | omega | (simp only [wr_id, szL, h0, List.length_cons, List.length_nil, List.length_map, List.length_append, List.length_take, List.length_drop, List.length_replicate, List.length_set, mkG_len] <;> omega) | fail) only [push_cast, if_pos, decide_eq_true, decide_eq_false, wr_id, szL, h0, simprocAttr, -Nat.reduceSubDiff]
  rw [show szL szItem l x = szG szItem l (x - l.length) by unfold szL; rw [if_neg h0]]
  generalize hM : szG szItem l (x - l.length) = M
  simp -dsimp (disch := first | omega | (simp only [wr_id, List.length_cons, List.length_nil, List.length_map, List.length_append, List.length_take, List.length_drop, List.length_replicate, List.length_set, mkG_len] <;> omega) | fail) only [push_cast, if_pos, decide_eq_true, decide_eq_false, wr_id, simprocAttr, -Nat.reduceSubDiff]
  refine loop_ind (α := Nat × Int) (fun p => p.1 ≤ l.length ∧ 0 ≤ p.2 ∧ p.2 ≤ x ∧ szG szItem (l.drop p.1) p.2 = M) (fun p => ⟨[(0, .sl false 2 (l.map (itemC false))), (1, .sc (.int .i64 p.2)), (5, .sc (.int .i64 p.1))], [], 1⟩) (fun p => l.length - p.1) (0, x - l.length) ⟨Nat.zero_le _, by omega, by omega, hM⟩ ?_ ?_
  · simp -dsimp (disch := first | omega | (simp only [List.length_cons, List.length_nil, List.length_map, List.length_append, List.length_take, List.length_drop, List.length_replicate, List.length_set, mkG_len] <;> omega) | fail) only [push_cast, if_pos, decide_eq_true, decide_eq_false, simprocAttr, -Nat.reduceSubDiff]
  rintro ⟨i, y⟩ ⟨hi, hy0, hy1, hy⟩ ih
  dsimp only at hi hy0 hy1 hy
  by_cases h : i < l.length
  · obtain ⟨s, hx⟩ := ex_get h
    rw [drop_step hx, szG] at hy
    (simp -dsimp (disch := first | omega | (simp only [hx, List.length_cons, List.length_nil, List.length_map, List.length_append, List.length_take, List.length_drop, List.length_replicate, List.length_set, mkG_len] <;> omega) | fail) only [push_cast, if_pos, decide_eq_true, decide_eq_false, hx, simprocAttr, -Nat.reduceSubDiff]) <;> (repeat (refine (aw_draw (by kernel_rfl)).2 ?_; simp -dsimp (disch := first | omega | (simp only [hx, List.length_cons, List.length_nil, List.length_map, List.length_append, List.length_take, List.length_drop, List.length_replicate, List.length_set, mkG_len] <;> omega) | fail) only [push_cast, if_pos, decide_eq_true, decide_eq_false, hx, simprocAttr, -Nat.reduceSubDiff]))
    refine callC (szItem_run s y hy0 (by omega) (hb.2 s (List.mem_of_getElem? hx))) ?_
    by_cases h2 : szItem s y < 0
    · rw [if_pos h2] at hy
      simp -dsimp (disch := first | omega | (simp only [← hy, List.length_cons, List.length_nil, List.length_map, List.length_append, List.length_take, List.length_drop, List.length_replicate, List.length_set, mkG_len] <;> omega) | fail) only [push_cast, if_pos, decide_eq_true, decide_eq_false, ← hy, simprocAttr, -Nat.reduceSubDiff]
    · rw [if_neg h2] at hy
      have := szItem_ok s y (by omega)
      simp -dsimp (disch := first | omega | (simp only [List.length_cons, List.length_nil, List.length_map, List.length_append, List.length_take, List.length_drop, List.length_replicate, List.length_set, mkG_len] <;> omega) | fail) only [push_cast, if_pos, decide_eq_true, decide_eq_false, simprocAttr, -Nat.reduceSubDiff]
      refine ih (i + 1, szItem s y) _ (by simp; omega) ⟨h, by simp only []; omega, by simp only []; omega, hy⟩ ?_
      simp -dsimp (disch := first | omega | (simp only [wr_id, List.length_cons, List.length_nil, List.length_map, List.length_append, List.length_take, List.length_drop, List.length_replicate, List.length_set, mkG_len] <;> omega) | fail) only [push_cast, if_pos, decide_eq_true, decide_eq_false, wr_id, simprocAttr, -Nat.reduceSubDiff]
  · rw [List.drop_eq_nil_of_le (by omega), szG] at hy
    simp -dsimp (disch := first | omega | (simp only [hy, List.length_cons, List.length_nil, List.length_map, List.length_append, List.length_take, List.length_drop, List.length_replicate, List.length_set, mkG_len] <;> omega) | fail) only [push_cast, if_pos, decide_eq_true, decide_eq_false, hy, simprocAttr, -Nat.reduceSubDiff]
def E164 : Env := { T := T0, kp := look [(0, [0]), (1, [1, 2]), (2, [1, 2, 3]), (3, [1, 2, 3]), (4, [2, 3])] }
attribute [local push_cast] E164
theorem toItem_run (x : Item) (hx : okItem x) : Does Tryz.prog 164 [.ag (itemC false x)] (.ag (itemC true x), []) := by
  refine does_of (E := E164) (rs := [.cell 2 125]) (lent := []) tOk rfl Tryz.func164 rfl (by decide) rfl rfl (Nat.le_of_ble_eq_true rfl) (Nat.le_of_ble_eq_true rfl) ?_
  (simp -dsimp (disch := first | omega | (simp only [List.length_cons, List.length_nil, List.length_map, List.length_append, List.length_take, List.length_drop, List.length_replicate, List.length_set, mkG_len] <;> omega) | fail) only [push_cast, if_pos, decide_eq_true, decide_eq_false, simprocAttr, -Nat.reduceSubDiff]) <;> (repeat (refine (aw_draw (by kernel_rfl)).2 ?_; simp -dsimp (disch := first | omega | (simp only [List.length_cons, List.length_nil, List.length_map, List.length_append, List.length_take, List.length_drop, List.length_replicate, List.length_set, mkG_len] <;> omega) | fail) only [push_cast, if_pos, decide_eq_true, decide_eq_false, simprocAttr, -Nat.reduceSubDiff]))
def E102 : Env := { T := T0, kp := look [(0, [0]), (1, [0]), (2, [0, 3]), (3, [0, 3, 4]), (4, [0, 3, 4]), (5, [0, 3, 4]), (6, [3])] }
attribute [local push_cast] E102
theorem toItemS (l : List Item) (hl : okL okItem l) : Does Tryz.prog 102 [.sl false 2 (l.map (itemC false))] (.sl true 2 (l.map (itemC true)), []) := by
  refine does_of (E := E102) (rs := [.tmp 2]) (lent := []) tOk rfl Tryz.func102 rfl (by decide) rfl rfl (Nat.le_of_ble_eq_true rfl) (Nat.le_of_ble_eq_true rfl) ?_
  have hl1 := hl.1
  obtain ⟨Z, hZ⟩ : ∃ Z : Item, Z = ⟨em, 0⟩ := ⟨_, rfl⟩
  have hz : ∀ k, List.replicate k (itemC true Z) = (List.replicate k Z).map (itemC true) := fun k => by simp
  simp -dsimp (disch := first | omega | (simp only [List.length_cons, List.length_nil, List.length_map, List.length_append, List.length_take, List.length_drop, List.length_replicate, List.length_set, mkG_len] <;> omega) | fail) only [push_cast, if_pos, decide_eq_true, decide_eq_false, simprocAttr, -Nat.reduceSubDiff]
  refine loop_ind (α := Nat) (fun i => i ≤ l.length) (fun i => ⟨[(0, .sl false 2 (l.map (itemC false))), (3, .ow 1 0 l.length), (4, .sc (.int .i64 i))], [(1, .ar 2 0 ((l.take i ++ (List.replicate l.length Z).drop i).map (itemC true)))], 2⟩) (fun i => l.length - i) 0 (Nat.zero_le _) ?_ ?_
  · simp -dsimp (disch := first | omega | (simp only [List.take_zero, List.drop_zero, List.map_replicate, hZ, em, List.length_cons, List.length_nil, List.length_map, List.length_append, List.length_take, List.length_drop, List.length_replicate, List.length_set, mkG_len] <;> omega) | fail) only [push_cast, if_pos, decide_eq_true, decide_eq_false, List.take_zero, List.drop_zero, List.map_replicate, hZ, em, simprocAttr, -Nat.reduceSubDiff]
  intro i hi ih
  by_cases h : i < l.length
  · obtain ⟨s, hx⟩ := ex_get h
    have hw := get_over (a := l) (b := List.replicate l.length Z) (by simp) hi
    rw [List.getElem?_replicate, if_pos h] at hw
    have ee := congrArg (List.map (itemC true)) (set_over (b := List.replicate l.length Z) (by simp) hx)
    rw [List.map_set] at ee
    (simp -dsimp (disch := first | omega | (simp only [hx, List.length_cons, List.length_nil, List.length_map, List.length_append, List.length_take, List.length_drop, List.length_replicate, List.length_set, mkG_len] <;> omega) | fail) only [push_cast, if_pos, decide_eq_true, decide_eq_false, hx, simprocAttr, -Nat.reduceSubDiff]) <;> (repeat (refine (aw_draw (by kernel_rfl)).2 ?_; simp -dsimp (disch := first | omega | (simp only [hx, List.length_cons, List.length_nil, List.length_map, List.length_append, List.length_take, List.length_drop, List.length_replicate, List.length_set, mkG_len] <;> omega) | fail) only [push_cast, if_pos, decide_eq_true, decide_eq_false, hx, simprocAttr, -Nat.reduceSubDiff]))
    refine callC (toItem_run s (hl.2 s (List.mem_of_getElem? hx))) ?_
    (simp -dsimp (disch := first | omega | (simp only [hw, List.length_cons, List.length_nil, List.length_map, List.length_append, List.length_take, List.length_drop, List.length_replicate, List.length_set, mkG_len] <;> omega) | fail) only [push_cast, if_pos, decide_eq_true, decide_eq_false, hw, simprocAttr, -Nat.reduceSubDiff]) <;> (repeat (refine (aw_draw (by kernel_rfl)).2 ?_; simp -dsimp (disch := first | omega | (simp only [hw, List.length_cons, List.length_nil, List.length_map, List.length_append, List.length_take, List.length_drop, List.length_replicate, List.length_set, mkG_len] <;> omega) | fail) only [push_cast, if_pos, decide_eq_true, decide_eq_false, hw, simprocAttr, -Nat.reduceSubDiff]))
    refine ih (i + 1) _ (by omega) h ?_
    unfold itemC at ee ⊢
    simp -dsimp (disch := first | omega | (simp only [wr_id, ee, List.length_cons, List.length_nil, List.length_map, List.length_append, List.length_take, List.length_drop, List.length_replicate, List.length_set, mkG_len] <;> omega) | fail) only [push_cast, if_pos, decide_eq_true, decide_eq_false, wr_id, ee, simprocAttr, -Nat.reduceSubDiff]
  · have hn : i = l.length := by omega
    subst hn
    simp -dsimp (disch := first | omega | (simp only [List.take_length, List.drop_eq_nil_of_le, List.length_cons, List.length_nil, List.length_map, List.length_append, List.length_take, List.length_drop, List.length_replicate, List.length_set, mkG_len] <;> omega) | fail) only [push_cast, if_pos, decide_eq_true, decide_eq_false, List.take_length, List.drop_eq_nil_of_le, simprocAttr, -Nat.reduceSubDiff]
end Go.Proofs.YtgkncgiglmdnaaaGreatDoor.Mx

/- The laws' helpers run (By fam.py of this session.) -/
namespace Go.Proofs.YtgkncgiglmdnaaaGreatDoor.Mx
set_option linter.all false
open Go Go.RowKit Go.Proofs
set_option linter.unusedSimpArgs false
set_option linter.unusedVariables false
def E26 : Env := { T := T0, kp := look [(0, [0, 1]), (1, [1, 2]), (2, [1, 2]), (3, []), (4, [1, 2]), (5, [1]), (6, []), (7, [1])] }
attribute [local push_cast] E26
theorem szStore_run (a : Store) (x : Int) (x0 : 0 ≤ x) (x1 : x ≤ 1048576) (hb : bdStore a) : Does Tryz.prog 26 [.ag (storeC false a), .sc (.int .i64 x)] (.sc (.int .i64 (szStore a x)), []) := by
  refine does_of (E := E26) (rs := [.tmp 4]) (lent := []) tOk rfl Tryz.func26 rfl (by decide) rfl rfl (Nat.le_of_ble_eq_true rfl) (Nat.le_of_ble_eq_true rfl) ?_
  unfold bdStore at hb
  (simp -dsimp (disch := first | omega | (simp only [wr_id, List.length_cons, List.length_nil, List.length_map, List.length_append, List.length_take, List.length_drop, List.length_replicate, List.length_set, mkG_len] <;> omega) | fail) only [push_cast, if_pos, decide_eq_true, decide_eq_false, wr_id, simprocAttr, -Nat.reduceSubDiff]) <;> (repeat (refine (aw_draw (by kernel_rfl)).2 ?_; simp -dsimp (disch := first | omega | (simp only [wr_id, List.length_cons, List.length_nil, List.length_map, List.length_append, List.length_take, List.length_drop, List.length_replicate, List.length_set, mkG_len] <;> omega) | fail) only [push_cast, if_pos, decide_eq_true, decide_eq_false, wr_id, simprocAttr, -Nat.reduceSubDiff]))
  refine callC (szItemS a.I (x) (by omega) (by omega) hb.1) ?_
  by_cases n0 : szL szItem a.I (x) < 0
  · have hv : szStore a x = -1 := by unfold szStore; rw [if_pos n0]
    (simp -dsimp (disch := first | omega | (simp only [wr_id, hv, List.length_cons, List.length_nil, List.length_map, List.length_append, List.length_take, List.length_drop, List.length_replicate, List.length_set, mkG_len] <;> omega) | fail) only [push_cast, if_pos, decide_eq_true, decide_eq_false, wr_id, hv, simprocAttr, -Nat.reduceSubDiff]) <;> (repeat (refine (aw_draw (by kernel_rfl)).2 ?_; simp -dsimp (disch := first | omega | (simp only [wr_id, hv, List.length_cons, List.length_nil, List.length_map, List.length_append, List.length_take, List.length_drop, List.length_replicate, List.length_set, mkG_len] <;> omega) | fail) only [push_cast, if_pos, decide_eq_true, decide_eq_false, wr_id, hv, simprocAttr, -Nat.reduceSubDiff]))
  have q0 := szL_ok szItem_ok a.I (x) (by omega)
  (simp -dsimp (disch := first | omega | (simp only [wr_id, List.length_cons, List.length_nil, List.length_map, List.length_append, List.length_take, List.length_drop, List.length_replicate, List.length_set, mkG_len] <;> omega) | fail) only [push_cast, if_pos, decide_eq_true, decide_eq_false, wr_id, simprocAttr, -Nat.reduceSubDiff]) <;> (repeat (refine (aw_draw (by kernel_rfl)).2 ?_; simp -dsimp (disch := first | omega | (simp only [wr_id, List.length_cons, List.length_nil, List.length_map, List.length_append, List.length_take, List.length_drop, List.length_replicate, List.length_set, mkG_len] <;> omega) | fail) only [push_cast, if_pos, decide_eq_true, decide_eq_false, wr_id, simprocAttr, -Nat.reduceSubDiff]))
  refine callC (szStringS a.P (szL szItem a.I (x)) (by omega) (by omega) hb.2) ?_
  by_cases n1 : szL szStr a.P (szL szItem a.I (x)) < 0
  · have hv : szStore a x = -1 := by unfold szStore; rw [if_neg n0]; rw [if_pos n1]
    (simp -dsimp (disch := first | omega | (simp only [wr_id, hv, List.length_cons, List.length_nil, List.length_map, List.length_append, List.length_take, List.length_drop, List.length_replicate, List.length_set, mkG_len] <;> omega) | fail) only [push_cast, if_pos, decide_eq_true, decide_eq_false, wr_id, hv, simprocAttr, -Nat.reduceSubDiff]) <;> (repeat (refine (aw_draw (by kernel_rfl)).2 ?_; simp -dsimp (disch := first | omega | (simp only [wr_id, hv, List.length_cons, List.length_nil, List.length_map, List.length_append, List.length_take, List.length_drop, List.length_replicate, List.length_set, mkG_len] <;> omega) | fail) only [push_cast, if_pos, decide_eq_true, decide_eq_false, wr_id, hv, simprocAttr, -Nat.reduceSubDiff]))
  have q1 := szL_ok szStr_ok a.P (szL szItem a.I (x)) (by omega)
  have hv : szStore a x = szL szStr a.P (szL szItem a.I (x)) := by unfold szStore; rw [if_neg n0]; rw [if_neg n1]
  (simp -dsimp (disch := first | omega | (simp only [wr_id, hv, List.length_cons, List.length_nil, List.length_map, List.length_append, List.length_take, List.length_drop, List.length_replicate, List.length_set, mkG_len] <;> omega) | fail) only [push_cast, if_pos, decide_eq_true, decide_eq_false, wr_id, hv, simprocAttr, -Nat.reduceSubDiff]) <;> (repeat (refine (aw_draw (by kernel_rfl)).2 ?_; simp -dsimp (disch := first | omega | (simp only [wr_id, hv, List.length_cons, List.length_nil, List.length_map, List.length_append, List.length_take, List.length_drop, List.length_replicate, List.length_set, mkG_len] <;> omega) | fail) only [push_cast, if_pos, decide_eq_true, decide_eq_false, wr_id, hv, simprocAttr, -Nat.reduceSubDiff]))
def E28 : Env := { T := T0, kp := look [(0, [0]), (1, [1, 2]), (2, [1, 2, 3]), (3, [1, 2, 3]), (4, [1, 2, 3]), (5, [1, 2, 3]), (6, [2, 3])] }
attribute [local push_cast] E28
theorem toStore_run (x : Store) (hx : okStore x) : Does Tryz.prog 28 [.ag (storeC false x)] (.ag (storeC true x), []) := by
  refine does_of (E := E28) (rs := [.cell 2 46]) (lent := []) tOk rfl Tryz.func28 rfl (by decide) rfl rfl (Nat.le_of_ble_eq_true rfl) (Nat.le_of_ble_eq_true rfl) ?_
  (simp -dsimp (disch := first | omega | (simp only [List.length_cons, List.length_nil, List.length_map, List.length_append, List.length_take, List.length_drop, List.length_replicate, List.length_set, mkG_len] <;> omega) | fail) only [push_cast, if_pos, decide_eq_true, decide_eq_false, simprocAttr, -Nat.reduceSubDiff]) <;> (repeat (refine (aw_draw (by kernel_rfl)).2 ?_; simp -dsimp (disch := first | omega | (simp only [List.length_cons, List.length_nil, List.length_map, List.length_append, List.length_take, List.length_drop, List.length_replicate, List.length_set, mkG_len] <;> omega) | fail) only [push_cast, if_pos, decide_eq_true, decide_eq_false, simprocAttr, -Nat.reduceSubDiff]))
  refine callC (toItemS x.I hx.1) ?_
  (simp -dsimp (disch := first | omega | (simp only [List.length_cons, List.length_nil, List.length_map, List.length_append, List.length_take, List.length_drop, List.length_replicate, List.length_set, mkG_len] <;> omega) | fail) only [push_cast, if_pos, decide_eq_true, decide_eq_false, simprocAttr, -Nat.reduceSubDiff]) <;> (repeat (refine (aw_draw (by kernel_rfl)).2 ?_; simp -dsimp (disch := first | omega | (simp only [List.length_cons, List.length_nil, List.length_map, List.length_append, List.length_take, List.length_drop, List.length_replicate, List.length_set, mkG_len] <;> omega) | fail) only [push_cast, if_pos, decide_eq_true, decide_eq_false, simprocAttr, -Nat.reduceSubDiff]))
  refine callC (toStringS x.P hx.2) ?_
  (simp -dsimp (disch := first | omega | (simp only [List.length_cons, List.length_nil, List.length_map, List.length_append, List.length_take, List.length_drop, List.length_replicate, List.length_set, mkG_len] <;> omega) | fail) only [push_cast, if_pos, decide_eq_true, decide_eq_false, simprocAttr, -Nat.reduceSubDiff]) <;> (repeat (refine (aw_draw (by kernel_rfl)).2 ?_; simp -dsimp (disch := first | omega | (simp only [List.length_cons, List.length_nil, List.length_map, List.length_append, List.length_take, List.length_drop, List.length_replicate, List.length_set, mkG_len] <;> omega) | fail) only [push_cast, if_pos, decide_eq_true, decide_eq_false, simprocAttr, -Nat.reduceSubDiff]))
def E30 : Env := { T := T0, kp := look [(0, [0, 1]), (1, [2, 3]), (2, []), (3, [2, 3]), (4, []), (5, [2, 3]), (6, []), (7, [2, 3]), (8, []), (9, [])] }
attribute [local push_cast] E30
theorem eqStore (x y : Store) (hy : okStore y) : Does Tryz.prog 30 [.ag (storeC false x), .ag (storeC false y)] (.sc (.bool (decide (x = y))), []) := by
  refine does_of (E := E30) (rs := [.tmp 4]) (lent := []) tOk rfl Tryz.func30 rfl (by decide) rfl rfl (Nat.le_of_ble_eq_true rfl) (Nat.le_of_ble_eq_true rfl) ?_
  by_cases e0 : x.w = y.w
  rotate_left
  · have hn : x ≠ y := fun h => e0 (by rw [h])
    (simp -dsimp (disch := first | omega | (simp only [e0, hn, List.length_cons, List.length_nil, List.length_map, List.length_append, List.length_take, List.length_drop, List.length_replicate, List.length_set, mkG_len] <;> omega) | fail) only [push_cast, if_pos, decide_eq_true, decide_eq_false, e0, hn, simprocAttr, -Nat.reduceSubDiff]) <;> (repeat (refine (aw_draw (by kernel_rfl)).2 ?_; simp -dsimp (disch := first | omega | (simp only [e0, hn, List.length_cons, List.length_nil, List.length_map, List.length_append, List.length_take, List.length_drop, List.length_replicate, List.length_set, mkG_len] <;> omega) | fail) only [push_cast, if_pos, decide_eq_true, decide_eq_false, e0, hn, simprocAttr, -Nat.reduceSubDiff]))
  (simp -dsimp (disch := first | omega | (simp only [e0, List.length_cons, List.length_nil, List.length_map, List.length_append, List.length_take, List.length_drop, List.length_replicate, List.length_set, mkG_len] <;> omega) | fail) only [push_cast, if_pos, decide_eq_true, decide_eq_false, e0, simprocAttr, -Nat.reduceSubDiff]) <;> (repeat (refine (aw_draw (by kernel_rfl)).2 ?_; simp -dsimp (disch := first | omega | (simp only [e0, List.length_cons, List.length_nil, List.length_map, List.length_append, List.length_take, List.length_drop, List.length_replicate, List.length_set, mkG_len] <;> omega) | fail) only [push_cast, if_pos, decide_eq_true, decide_eq_false, e0, simprocAttr, -Nat.reduceSubDiff]))
  by_cases e1 : x.r = y.r
  rotate_left
  · have hn : x ≠ y := fun h => e1 (by rw [h])
    (simp -dsimp (disch := first | omega | (simp only [e1, hn, List.length_cons, List.length_nil, List.length_map, List.length_append, List.length_take, List.length_drop, List.length_replicate, List.length_set, mkG_len] <;> omega) | fail) only [push_cast, if_pos, decide_eq_true, decide_eq_false, e1, hn, simprocAttr, -Nat.reduceSubDiff]) <;> (repeat (refine (aw_draw (by kernel_rfl)).2 ?_; simp -dsimp (disch := first | omega | (simp only [e1, hn, List.length_cons, List.length_nil, List.length_map, List.length_append, List.length_take, List.length_drop, List.length_replicate, List.length_set, mkG_len] <;> omega) | fail) only [push_cast, if_pos, decide_eq_true, decide_eq_false, e1, hn, simprocAttr, -Nat.reduceSubDiff]))
  (simp -dsimp (disch := first | omega | (simp only [e1, List.length_cons, List.length_nil, List.length_map, List.length_append, List.length_take, List.length_drop, List.length_replicate, List.length_set, mkG_len] <;> omega) | fail) only [push_cast, if_pos, decide_eq_true, decide_eq_false, e1, simprocAttr, -Nat.reduceSubDiff]) <;> (repeat (refine (aw_draw (by kernel_rfl)).2 ?_; simp -dsimp (disch := first | omega | (simp only [e1, List.length_cons, List.length_nil, List.length_map, List.length_append, List.length_take, List.length_drop, List.length_replicate, List.length_set, mkG_len] <;> omega) | fail) only [push_cast, if_pos, decide_eq_true, decide_eq_false, e1, simprocAttr, -Nat.reduceSubDiff]))
  refine callC (eqItemS x.I y.I hy.1) ?_
  by_cases e2 : x.I = y.I
  rotate_left
  · have hn : x ≠ y := fun h => e2 (by rw [h])
    (simp -dsimp (disch := first | omega | (simp only [e2, hn, List.length_cons, List.length_nil, List.length_map, List.length_append, List.length_take, List.length_drop, List.length_replicate, List.length_set, mkG_len] <;> omega) | fail) only [push_cast, if_pos, decide_eq_true, decide_eq_false, e2, hn, simprocAttr, -Nat.reduceSubDiff]) <;> (repeat (refine (aw_draw (by kernel_rfl)).2 ?_; simp -dsimp (disch := first | omega | (simp only [e2, hn, List.length_cons, List.length_nil, List.length_map, List.length_append, List.length_take, List.length_drop, List.length_replicate, List.length_set, mkG_len] <;> omega) | fail) only [push_cast, if_pos, decide_eq_true, decide_eq_false, e2, hn, simprocAttr, -Nat.reduceSubDiff]))
  (simp -dsimp (disch := first | omega | (simp only [e2, List.length_cons, List.length_nil, List.length_map, List.length_append, List.length_take, List.length_drop, List.length_replicate, List.length_set, mkG_len] <;> omega) | fail) only [push_cast, if_pos, decide_eq_true, decide_eq_false, e2, simprocAttr, -Nat.reduceSubDiff]) <;> (repeat (refine (aw_draw (by kernel_rfl)).2 ?_; simp -dsimp (disch := first | omega | (simp only [e2, List.length_cons, List.length_nil, List.length_map, List.length_append, List.length_take, List.length_drop, List.length_replicate, List.length_set, mkG_len] <;> omega) | fail) only [push_cast, if_pos, decide_eq_true, decide_eq_false, e2, simprocAttr, -Nat.reduceSubDiff]))
  refine callC (eqStringS x.P y.P hy.2) ?_
  by_cases e3 : x.P = y.P
  rotate_left
  · have hn : x ≠ y := fun h => e3 (by rw [h])
    (simp -dsimp (disch := first | omega | (simp only [e3, hn, List.length_cons, List.length_nil, List.length_map, List.length_append, List.length_take, List.length_drop, List.length_replicate, List.length_set, mkG_len] <;> omega) | fail) only [push_cast, if_pos, decide_eq_true, decide_eq_false, e3, hn, simprocAttr, -Nat.reduceSubDiff]) <;> (repeat (refine (aw_draw (by kernel_rfl)).2 ?_; simp -dsimp (disch := first | omega | (simp only [e3, hn, List.length_cons, List.length_nil, List.length_map, List.length_append, List.length_take, List.length_drop, List.length_replicate, List.length_set, mkG_len] <;> omega) | fail) only [push_cast, if_pos, decide_eq_true, decide_eq_false, e3, hn, simprocAttr, -Nat.reduceSubDiff]))
  have hn : x = y := by cases x; cases y; simp_all
  (simp -dsimp (disch := first | omega | (simp only [e3, hn, List.length_cons, List.length_nil, List.length_map, List.length_append, List.length_take, List.length_drop, List.length_replicate, List.length_set, mkG_len] <;> omega) | fail) only [push_cast, if_pos, decide_eq_true, decide_eq_false, e3, hn, simprocAttr, -Nat.reduceSubDiff]) <;> (repeat (refine (aw_draw (by kernel_rfl)).2 ?_; simp -dsimp (disch := first | omega | (simp only [e3, hn, List.length_cons, List.length_nil, List.length_map, List.length_append, List.length_take, List.length_drop, List.length_replicate, List.length_set, mkG_len] <;> omega) | fail) only [push_cast, if_pos, decide_eq_true, decide_eq_false, e3, hn, simprocAttr, -Nat.reduceSubDiff]))
end Go.Proofs.YtgkncgiglmdnaaaGreatDoor.Mx

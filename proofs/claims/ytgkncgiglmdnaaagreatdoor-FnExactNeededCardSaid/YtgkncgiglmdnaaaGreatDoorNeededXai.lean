/- A machine over values for Go functions, proved sound, and functions run on it: texts V8, F1, F2, G1. -/
import Derived.Test.YtgkncgiglmdnaaaGreatDoorNeededXah
/- Sets of texts: how they grow, their keys in order. -/
namespace Go.Proofs.YtgkncgiglmdnaaaGreatDoor.Mx
set_option linter.all false
open Go Go.RowKit
attribute [local instance 100000] instBEqOfDecidableEq
def pT (s : Str) : Value × Value := (.string s, .bool true)
def ins (l : List Str) (s : Str) : List Str := if s ∈ l then l else l ++ [s]
theorem kset_ins (l : List Str) (s : Str) : kset (l.map pT) (.string s) (.bool true) = (ins l s).map pT := by
  unfold ins
  induction l with
  | nil => simp [kset, pT]
  | cons a r ih =>
    rw [List.map_cons]
    by_cases h : a = s
    · subst h; simp [kset, pT, keq, eqs]
    · have h2 : ¬ s = a := fun e => h e.symm
      show kset ((Value.string a, Value.bool true) :: r.map pT) _ _ = _
      rw [kset]
      have hk : keq (.string a) (.string s) = false := by simp [keq, eqs, h2]
      rw [hk, cond_false, ih]
      by_cases h3 : s ∈ r <;> simp [h3, h2, pT]
theorem ins_nodup {l : List Str} (h : l.Nodup) (s : Str) : (ins l s).Nodup := by
  unfold ins
  split
  · exact h
  · rename_i hs
    rw [List.nodup_append]
    exact ⟨h, by simp, fun a ha b hb => by simp at hb; subst hb; intro e; subst e; exact hs ha⟩
theorem ins_mem {l : List Str} {s x : Str} : x ∈ ins l s ↔ x ∈ l ∨ x = s := by
  unfold ins
  split <;> simp
  rename_i h
  intro e; subst e; exact h
def insL (l r : List Str) : List Str := r.foldl ins l
theorem insL_nodup {l : List Str} (h : l.Nodup) (r : List Str) : (insL l r).Nodup := by
  unfold insL
  induction r generalizing l with
  | nil => exact h
  | cons a r ih => exact ih (ins_nodup h a)
theorem insL_mem {l r : List Str} {x : Str} : x ∈ insL l r ↔ x ∈ l ∨ x ∈ r := by
  unfold insL
  induction r generalizing l with
  | nil => simp
  | cons a r ih => rw [List.foldl_cons, ih, ins_mem]; simp [or_assoc]
theorem nodup_len {l m : List Str} (h : l.Nodup) (hs : ∀ x ∈ l, x ∈ m) : l.length ≤ m.length := by
  induction l generalizing m with
  | nil => exact Nat.zero_le _
  | cons a r ih =>
    rw [List.nodup_cons] at h
    have ha := hs a (by simp)
    have := ih (m := m.erase a) h.2 fun x hx => by
      have hne : x ≠ a := fun e => h.1 (e ▸ hx)
      exact (List.mem_erase_of_ne hne).2 (hs x (by simp [hx]))
    rw [List.length_erase_of_mem ha] at this
    have : 0 < m.length := List.length_pos_of_mem ha
    simp only [List.length_cons]; omega
theorem pT_plain (l : List Str) : ((l.map pT).all fun e => plain e.1 && plain e.2) = true := by
  rw [List.all_eq_true]; intro e he
  obtain ⟨s, _, rfl⟩ := List.mem_map.1 he
  rfl
/-- the lot in order is the order of the lot -/
theorem srt_perm {l m : List Str} (h : l.Perm m) : srt l = srt m := by
  unfold srt srtB
  congr 1
  have hp : ((l.map (·.data.toList)).mergeSort fun x y => decide (x ≤ y)).Perm ((m.map (·.data.toList)).mergeSort fun x y => decide (x ≤ y)) :=
    (List.mergeSort_perm _ _).trans ((h.map _).trans (List.mergeSort_perm _ _).symm)
  have tr : ∀ a b c : List UInt8, decide (a ≤ b) = true → decide (b ≤ c) = true → decide (a ≤ c) = true := by
    intro a b c h1 h2; simp at *; exact List.le_trans h1 h2
  have «to» : ∀ a b : List UInt8, (decide (a ≤ b) || decide (b ≤ a)) = true := by
    intro a b; simp; exact List.le_total a b
  exact hp.eq_of_pairwise (le := fun x y => decide (x ≤ y) = true) (fun a b _ _ h1 h2 => by simp at h1 h2; exact List.le_antisymm h1 h2) (List.pairwise_mergeSort tr «to» _) (List.pairwise_mergeSort tr «to» _)
theorem map_pT_perm {rem : List Str} {kv : Value × Value} {r : List (Value × Value)} (h : (rem.map pT).Perm (kv :: r)) : ∃ s q, kv = pT s ∧ r = q.map pT ∧ rem.Perm (s :: q) := by
  have hk : kv ∈ rem.map pT := h.mem_iff.2 (by simp)
  obtain ⟨s, hs, rfl⟩ := List.mem_map.1 hk
  have h2 : (r.map fun e => match e.1 with | .string s => s | _ => s).map pT = r := by
    rw [List.map_map]
    conv => rhs; rw [← List.map_id r]
    apply List.map_congr_left
    intro e he
    have : e ∈ rem.map pT := h.mem_iff.2 (by simp [he])
    obtain ⟨z, _, rfl⟩ := List.mem_map.1 this
    rfl
  refine ⟨s, r.map fun e => match e.1 with | .string s => s | _ => s, rfl, h2.symm, ?_⟩
  have h3 := h.map fun e => match e.1 with | .string s => s | _ => s
  rw [List.map_map, List.map_cons] at h3
  have h4 : (rem.map ((fun e : Value × Value => match e.1 with | .string s => s | _ => s) ∘ pT)) = rem := by
    conv => rhs; rw [← List.map_id rem]
    apply List.map_congr_left
    intro e he; rfl
  rw [h4] at h3
  exact h3
end Go.Proofs.YtgkncgiglmdnaaaGreatDoor.Mx

/- Sums. -/
namespace Go.Proofs.YtgkncgiglmdnaaaGreatDoor.Mx
set_option linter.all false
open Go Go.RowKit Go.Proofs
def E145 : Env := { T := T0, kp := look [(0, [0]), (1, [0])] }
attribute [local push_cast] E145
theorem widthOk (n : Int) : Does Tryz.prog 145 [.sc (.int .i64 n)] (.sc (.bool (inB n 1 8)), []) := by
  refine does_of (E := E145) (rs := [.tmp 2]) (lent := []) tOk rfl Tryz.func145 rfl (by decide) rfl rfl (Nat.le_of_ble_eq_true rfl) (Nat.le_of_ble_eq_true rfl) ?_
  by_cases h : 1 ≤ n <;> by_cases h2 : n ≤ 8 <;> first | (exfalso; omega) | (simp -dsimp (disch := first | omega | (simp only [h, h2, inB, List.length_cons, List.length_nil, List.length_map, List.length_append, List.length_take, List.length_drop, List.length_replicate, List.length_set, mkG_len] <;> omega) | fail) only [push_cast, if_pos, decide_eq_true, decide_eq_false, h, h2, inB, Nat.reduceAdd, Nat.reduceSub, Nat.reduceMul, Nat.reduceBEq, Nat.reduceEqDiff, Nat.reduceLT, Nat.reduceLeDiff, Int.reduceToNat, Int.reduceLE, Int.reduceLT, Int.reduceAdd, Int.reduceSub, Int.reduceMul, Int.reduceEq, Int.reduceNeg, ↓reduceIte, reduceCtorEq])
def E114 : Env := { T := T0, kp := look [(0, [0, 1, 2]), (1, [0, 1, 2])] }
attribute [local push_cast] E114
theorem l1In (a b c : Int) : Does Tryz.prog 114 [.sc (.int .i64 a), .sc (.int .i64 b), .sc (.int .i64 c)] (.sc (.bool (inB a b c)), []) := by
  refine does_of (E := E114) (rs := [.tmp 6]) (lent := []) tOk rfl Tryz.func114 rfl (by decide) rfl rfl (Nat.le_of_ble_eq_true rfl) (Nat.le_of_ble_eq_true rfl) ?_
  by_cases h : b ≤ a <;> by_cases h2 : a ≤ c <;> simp -dsimp (disch := first | omega | (simp only [h, h2, inB, List.length_cons, List.length_nil, List.length_map, List.length_append, List.length_take, List.length_drop, List.length_replicate, List.length_set, mkG_len] <;> omega) | fail) only [push_cast, if_pos, decide_eq_true, decide_eq_false, h, h2, inB, Nat.reduceAdd, Nat.reduceSub, Nat.reduceMul, Nat.reduceBEq, Nat.reduceEqDiff, Nat.reduceLT, Nat.reduceLeDiff, Int.reduceToNat, Int.reduceLE, Int.reduceLT, Int.reduceAdd, Int.reduceSub, Int.reduceMul, Int.reduceEq, Int.reduceNeg, ↓reduceIte, reduceCtorEq]
def E77 : Env := { T := T0, kp := look [(0, [0]), (1, [0])] }
attribute [local push_cast] E77
theorem l1Width (n : Int) : Does Tryz.prog 77 [.sc (.int .i64 n)] (.sc (.bool (inB n 1 8)), []) := by
  refine does_of (E := E77) (rs := [.tmp 2]) (lent := []) tOk rfl Tryz.func77 rfl (by decide) rfl rfl (Nat.le_of_ble_eq_true rfl) (Nat.le_of_ble_eq_true rfl) ?_
  simp -dsimp (disch := first | omega | (simp only [List.length_cons, List.length_nil, List.length_map, List.length_append, List.length_take, List.length_drop, List.length_replicate, List.length_set, mkG_len] <;> omega) | fail) only [push_cast, if_pos, decide_eq_true, decide_eq_false, Nat.reduceAdd, Nat.reduceSub, Nat.reduceMul, Nat.reduceBEq, Nat.reduceEqDiff, Nat.reduceLT, Nat.reduceLeDiff, Int.reduceToNat, Int.reduceLE, Int.reduceLT, Int.reduceAdd, Int.reduceSub, Int.reduceMul, Int.reduceEq, Int.reduceNeg, ↓reduceIte, reduceCtorEq]
  refine callC (l1In ..) ?_
  simp -dsimp (disch := first | omega | (simp only [List.length_cons, List.length_nil, List.length_map, List.length_append, List.length_take, List.length_drop, List.length_replicate, List.length_set, mkG_len] <;> omega) | fail) only [push_cast, if_pos, decide_eq_true, decide_eq_false, Nat.reduceAdd, Nat.reduceSub, Nat.reduceMul, Nat.reduceBEq, Nat.reduceEqDiff, Nat.reduceLT, Nat.reduceLeDiff, Int.reduceToNat, Int.reduceLE, Int.reduceLT, Int.reduceAdd, Int.reduceSub, Int.reduceMul, Int.reduceEq, Int.reduceNeg, ↓reduceIte, reduceCtorEq]
def E90 : Env := { T := T0, kp := look [(0, [0]), (1, [0]), (2, [0, 3]), (3, [0, 3, 4]), (4, [0, 3, 4]), (5, [0, 3, 4]), (6, [3])] }
attribute [local push_cast] E90
theorem sum64 (t : Str) (ht : t.size < 4611686018427387904) : Does Tryz.prog 90 [.sc (.string t)] (.sc (.int .u64 (hash64 (bt t))), []) := by
  refine does_of (E := E90) (rs := [.tmp 2]) (lent := []) tOk rfl Tryz.func90 rfl (by decide) rfl rfl (Nat.le_of_ble_eq_true rfl) (Nat.le_of_ble_eq_true rfl) ?_
  simp -dsimp (disch := first | omega | (simp only [List.length_cons, List.length_nil, List.length_map, List.length_append, List.length_take, List.length_drop, List.length_replicate, List.length_set, mkG_len] <;> omega) | fail) only [push_cast, if_pos, decide_eq_true, decide_eq_false, Nat.reduceAdd, Nat.reduceSub, Nat.reduceMul, Nat.reduceBEq, Nat.reduceEqDiff, Nat.reduceLT, Nat.reduceLeDiff, Int.reduceToNat, Int.reduceLE, Int.reduceLT, Int.reduceAdd, Int.reduceSub, Int.reduceMul, Int.reduceEq, Int.reduceNeg, ↓reduceIte, reduceCtorEq]
  refine loop_ind (α := Nat) (fun i => i ≤ t.size) (fun i => ⟨[(0, .sc (.string t)), (3, .sc (.int .u64 (((bt t).take i).foldl step64 14695981039346656037))), (4, .sc (.int .i64 i))], [], 1⟩) (fun i => t.size - i) 0 (Nat.zero_le _) ?_ ?_
  · simp -dsimp (disch := first | omega | (simp only [List.foldl_nil, List.length_cons, List.length_nil, List.length_map, List.length_append, List.length_take, List.length_drop, List.length_replicate, List.length_set, mkG_len] <;> omega) | fail) only [push_cast, if_pos, decide_eq_true, decide_eq_false, List.foldl_nil, Nat.reduceAdd, Nat.reduceSub, Nat.reduceMul, Nat.reduceBEq, Nat.reduceEqDiff, Nat.reduceLT, Nat.reduceLeDiff, Int.reduceToNat, Int.reduceLE, Int.reduceLT, Int.reduceAdd, Int.reduceSub, Int.reduceMul, Int.reduceEq, Int.reduceNeg, ↓reduceIte, reduceCtorEq]
  intro i hi ih
  by_cases h : i < t.size
  · obtain ⟨u, hu⟩ := ex_get (by rw [bt_len]; exact h : i < (bt t).length)
    simp -dsimp (disch := first | omega | (simp only [h, hu, List.length_cons, List.length_nil, List.length_map, List.length_append, List.length_take, List.length_drop, List.length_replicate, List.length_set, mkG_len] <;> omega) | fail) only [push_cast, if_pos, decide_eq_true, decide_eq_false, h, hu, Nat.reduceAdd, Nat.reduceSub, Nat.reduceMul, Nat.reduceBEq, Nat.reduceEqDiff, Nat.reduceLT, Nat.reduceLeDiff, Int.reduceToNat, Int.reduceLE, Int.reduceLT, Int.reduceAdd, Int.reduceSub, Int.reduceMul, Int.reduceEq, Int.reduceNeg, ↓reduceIte, reduceCtorEq]
    refine ih (i + 1) _ (by omega) h ?_
    simp -dsimp (disch := first | omega | (simp only [wr_id, take_step hu, List.foldl_append, List.foldl_cons, List.foldl_nil, step64, List.length_cons, List.length_nil, List.length_map, List.length_append, List.length_take, List.length_drop, List.length_replicate, List.length_set, mkG_len] <;> omega) | fail) only [push_cast, if_pos, decide_eq_true, decide_eq_false, wr_id, take_step hu, List.foldl_append, List.foldl_cons, List.foldl_nil, step64, Nat.reduceAdd, Nat.reduceSub, Nat.reduceMul, Nat.reduceBEq, Nat.reduceEqDiff, Nat.reduceLT, Nat.reduceLeDiff, Int.reduceToNat, Int.reduceLE, Int.reduceLT, Int.reduceAdd, Int.reduceSub, Int.reduceMul, Int.reduceEq, Int.reduceNeg, ↓reduceIte, reduceCtorEq]
  · have hl : (bt t).take i = bt t := List.take_of_length_le (by rw [bt_len]; omega)
    simp -dsimp (disch := first | omega | (simp only [h, hl, hash64, List.length_cons, List.length_nil, List.length_map, List.length_append, List.length_take, List.length_drop, List.length_replicate, List.length_set, mkG_len] <;> omega) | fail) only [push_cast, if_pos, decide_eq_true, decide_eq_false, h, hl, hash64, Nat.reduceAdd, Nat.reduceSub, Nat.reduceMul, Nat.reduceBEq, Nat.reduceEqDiff, Nat.reduceLT, Nat.reduceLeDiff, Int.reduceToNat, Int.reduceLE, Int.reduceLT, Int.reduceAdd, Int.reduceSub, Int.reduceMul, Int.reduceEq, Int.reduceNeg, ↓reduceIte, reduceCtorEq]
def E151 : Env := { T := T0, kp := look [(0, [0]), (1, [0]), (2, [0, 3]), (3, [0, 3, 4]), (4, [0, 3, 4]), (5, [0, 3, 4]), (6, [3])] }
attribute [local push_cast] E151
theorem l1Sum64 (t : Str) (ht : t.size < 4611686018427387904) : Does Tryz.prog 151 [.sc (.string t)] (.sc (.int .u64 (hash64 (bt t))), []) := by
  refine does_of (E := E151) (rs := [.tmp 2]) (lent := []) tOk rfl Tryz.func151 rfl (by decide) rfl rfl (Nat.le_of_ble_eq_true rfl) (Nat.le_of_ble_eq_true rfl) ?_
  simp -dsimp (disch := first | omega | (simp only [List.length_cons, List.length_nil, List.length_map, List.length_append, List.length_take, List.length_drop, List.length_replicate, List.length_set, mkG_len] <;> omega) | fail) only [push_cast, if_pos, decide_eq_true, decide_eq_false, Nat.reduceAdd, Nat.reduceSub, Nat.reduceMul, Nat.reduceBEq, Nat.reduceEqDiff, Nat.reduceLT, Nat.reduceLeDiff, Int.reduceToNat, Int.reduceLE, Int.reduceLT, Int.reduceAdd, Int.reduceSub, Int.reduceMul, Int.reduceEq, Int.reduceNeg, ↓reduceIte, reduceCtorEq]
  refine loop_ind (α := Nat) (fun i => i ≤ t.size) (fun i => ⟨[(0, .sc (.string t)), (3, .sc (.int .u64 (((bt t).take i).foldl step64 14695981039346656037))), (4, .sc (.int .i64 i))], [], 1⟩) (fun i => t.size - i) 0 (Nat.zero_le _) ?_ ?_
  · simp -dsimp (disch := first | omega | (simp only [List.foldl_nil, List.length_cons, List.length_nil, List.length_map, List.length_append, List.length_take, List.length_drop, List.length_replicate, List.length_set, mkG_len] <;> omega) | fail) only [push_cast, if_pos, decide_eq_true, decide_eq_false, List.foldl_nil, Nat.reduceAdd, Nat.reduceSub, Nat.reduceMul, Nat.reduceBEq, Nat.reduceEqDiff, Nat.reduceLT, Nat.reduceLeDiff, Int.reduceToNat, Int.reduceLE, Int.reduceLT, Int.reduceAdd, Int.reduceSub, Int.reduceMul, Int.reduceEq, Int.reduceNeg, ↓reduceIte, reduceCtorEq]
  intro i hi ih
  by_cases h : i < t.size
  · obtain ⟨u, hu⟩ := ex_get (by rw [bt_len]; exact h : i < (bt t).length)
    simp -dsimp (disch := first | omega | (simp only [h, hu, List.length_cons, List.length_nil, List.length_map, List.length_append, List.length_take, List.length_drop, List.length_replicate, List.length_set, mkG_len] <;> omega) | fail) only [push_cast, if_pos, decide_eq_true, decide_eq_false, h, hu, Nat.reduceAdd, Nat.reduceSub, Nat.reduceMul, Nat.reduceBEq, Nat.reduceEqDiff, Nat.reduceLT, Nat.reduceLeDiff, Int.reduceToNat, Int.reduceLE, Int.reduceLT, Int.reduceAdd, Int.reduceSub, Int.reduceMul, Int.reduceEq, Int.reduceNeg, ↓reduceIte, reduceCtorEq]
    refine ih (i + 1) _ (by omega) h ?_
    simp -dsimp (disch := first | omega | (simp only [wr_id, take_step hu, List.foldl_append, List.foldl_cons, List.foldl_nil, step64, List.length_cons, List.length_nil, List.length_map, List.length_append, List.length_take, List.length_drop, List.length_replicate, List.length_set, mkG_len] <;> omega) | fail) only [push_cast, if_pos, decide_eq_true, decide_eq_false, wr_id, take_step hu, List.foldl_append, List.foldl_cons, List.foldl_nil, step64, Nat.reduceAdd, Nat.reduceSub, Nat.reduceMul, Nat.reduceBEq, Nat.reduceEqDiff, Nat.reduceLT, Nat.reduceLeDiff, Int.reduceToNat, Int.reduceLE, Int.reduceLT, Int.reduceAdd, Int.reduceSub, Int.reduceMul, Int.reduceEq, Int.reduceNeg, ↓reduceIte, reduceCtorEq]
  · have hl : (bt t).take i = bt t := List.take_of_length_le (by rw [bt_len]; omega)
    simp -dsimp (disch := first | omega | (simp only [h, hl, hash64, List.length_cons, List.length_nil, List.length_map, List.length_append, List.length_take, List.length_drop, List.length_replicate, List.length_set, mkG_len] <;> omega) | fail) only [push_cast, if_pos, decide_eq_true, decide_eq_false, h, hl, hash64, Nat.reduceAdd, Nat.reduceSub, Nat.reduceMul, Nat.reduceBEq, Nat.reduceEqDiff, Nat.reduceLT, Nat.reduceLeDiff, Int.reduceToNat, Int.reduceLE, Int.reduceLT, Int.reduceAdd, Int.reduceSub, Int.reduceMul, Int.reduceEq, Int.reduceNeg, ↓reduceIte, reduceCtorEq]
def E150 : Env := { T := T0, kp := look [(0, [0, 1]), (1, [0, 1]), (2, [0, 1, 5]), (3, [0, 1, 5, 6]), (4, [0, 1, 5, 6]), (5, [0, 1, 5, 6]), (6, [0, 1, 5, 6]), (7, [5])] }
attribute [local push_cast] E150
theorem l1Bytes (h w : Int) (h0 : 0 ≤ h) (h1 : h < 18446744073709551616) (w0 : 0 ≤ w) (w8 : w ≤ 8) : Does Tryz.prog 150 [.sc (.int .u64 h), .sc (.int .i64 w)] (.sc (.string (strN (be w.toNat h))), []) := by
  refine does_of (E := E150) (rs := [.tmp 4]) (lent := []) tOk rfl Tryz.func150 rfl (by decide) rfl rfl (Nat.le_of_ble_eq_true rfl) (Nat.le_of_ble_eq_true rfl) ?_
  simp -dsimp (disch := first | omega | (simp only [List.length_cons, List.length_nil, List.length_map, List.length_append, List.length_take, List.length_drop, List.length_replicate, List.length_set, mkG_len] <;> omega) | fail) only [push_cast, if_pos, decide_eq_true, decide_eq_false, Nat.reduceAdd, Nat.reduceSub, Nat.reduceMul, Nat.reduceBEq, Nat.reduceEqDiff, Nat.reduceLT, Nat.reduceLeDiff, Int.reduceToNat, Int.reduceLE, Int.reduceLT, Int.reduceAdd, Int.reduceSub, Int.reduceMul, Int.reduceEq, Int.reduceNeg, ↓reduceIte, reduceCtorEq]
  refine loop_ind (α := Nat) (fun i => i ≤ w.toNat) (fun i => ⟨[(0, .sc (.int .u64 (h / 256 ^ i))), (1, .sc (.int .i64 w)), (5, .sc (.string (strN (be i h)))), (6, .sc (.int .i64 i))], [], 1⟩) (fun i => w.toNat - i) 0 (Nat.zero_le _) ?_ ?_
  · simp -dsimp (disch := first | omega | (simp only [be, strN, Int.pow_zero, Int.ediv_one, List.length_cons, List.length_nil, List.length_map, List.length_append, List.length_take, List.length_drop, List.length_replicate, List.length_set, mkG_len] <;> omega) | fail) only [push_cast, if_pos, decide_eq_true, decide_eq_false, be, strN, Int.pow_zero, Int.ediv_one, Nat.reduceAdd, Nat.reduceSub, Nat.reduceMul, Nat.reduceBEq, Nat.reduceEqDiff, Nat.reduceLT, Nat.reduceLeDiff, Int.reduceToNat, Int.reduceLE, Int.reduceLT, Int.reduceAdd, Int.reduceSub, Int.reduceMul, Int.reduceEq, Int.reduceNeg, ↓reduceIte, reduceCtorEq]
    trace_state
  intro i hi ih
  by_cases h2 : (i : Int) < w
  · have e1 : 0 ≤ h / 256 ^ i := Int.ediv_nonneg h0 (Int.pow_nonneg (by decide))
    have e2 : h / 256 ^ i < 18446744073709551616 := Int.lt_of_le_of_lt (Int.ediv_le_self _ h0) h1
    have e3 : wr .u8 ((h / 256 ^ i).tmod 256) = h / 256 ^ i % 256 := by rw [wr_u8, Int.tmod_eq_emod_of_nonneg e1]; omega
    have e4 : wr .u64 ((h / 256 ^ i).tdiv 256) = h / 256 ^ (i + 1) := by
      rw [wr_u64, Int.tdiv_eq_ediv_of_nonneg e1, Int.pow_succ, ← Int.ediv_ediv_of_nonneg (Int.pow_nonneg (by decide))]
      have := Int.ediv_nonneg e1 (by decide : (0 : Int) ≤ 256)
      have := Int.ediv_le_self 256 e1
      omega
    simp -dsimp (disch := first | omega | (simp only [h2, e3, e4, strN_one, strN_size, be_len, strN_app, List.length_cons, List.length_nil, List.length_map, List.length_append, List.length_take, List.length_drop, List.length_replicate, List.length_set, mkG_len] <;> omega) | fail) only [push_cast, if_pos, decide_eq_true, decide_eq_false, h2, e3, e4, strN_one, strN_size, be_len, strN_app, Nat.reduceAdd, Nat.reduceSub, Nat.reduceMul, Nat.reduceBEq, Nat.reduceEqDiff, Nat.reduceLT, Nat.reduceLeDiff, Int.reduceToNat, Int.reduceLE, Int.reduceLT, Int.reduceAdd, Int.reduceSub, Int.reduceMul, Int.reduceEq, Int.reduceNeg, ↓reduceIte, reduceCtorEq]
    refine ih (i + 1) _ (by omega) (by omega) ?_
    simp -dsimp (disch := first | omega | (simp only [wr_id, be, List.length_cons, List.length_nil, List.length_map, List.length_append, List.length_take, List.length_drop, List.length_replicate, List.length_set, mkG_len] <;> omega) | fail) only [push_cast, if_pos, decide_eq_true, decide_eq_false, wr_id, be, Nat.reduceAdd, Nat.reduceSub, Nat.reduceMul, Nat.reduceBEq, Nat.reduceEqDiff, Nat.reduceLT, Nat.reduceLeDiff, Int.reduceToNat, Int.reduceLE, Int.reduceLT, Int.reduceAdd, Int.reduceSub, Int.reduceMul, Int.reduceEq, Int.reduceNeg, ↓reduceIte, reduceCtorEq]
  · have : w.toNat = i := by omega
    simp -dsimp (disch := first | omega | (simp only [h2, this, List.length_cons, List.length_nil, List.length_map, List.length_append, List.length_take, List.length_drop, List.length_replicate, List.length_set, mkG_len] <;> omega) | fail) only [push_cast, if_pos, decide_eq_true, decide_eq_false, h2, this, Nat.reduceAdd, Nat.reduceSub, Nat.reduceMul, Nat.reduceBEq, Nat.reduceEqDiff, Nat.reduceLT, Nat.reduceLeDiff, Int.reduceToNat, Int.reduceLE, Int.reduceLT, Int.reduceAdd, Int.reduceSub, Int.reduceMul, Int.reduceEq, Int.reduceNeg, ↓reduceIte, reduceCtorEq]
def E79 : Env := { T := T0, kp := look [(0, [0, 1]), (1, [0, 1]), (2, []), (3, [0, 1])] }
attribute [local push_cast] E79
theorem specSum (t : Str) (w : Int) (ht : t.size < 4611686018427387904) : Does Tryz.prog 79 [.sc (.string t), .sc (.int .i64 w)] (.sc (.string (sumS t w)), []) := by
  refine does_of (E := E79) (rs := [.tmp 4]) (lent := []) tOk rfl Tryz.func79 rfl (by decide) rfl rfl (Nat.le_of_ble_eq_true rfl) (Nat.le_of_ble_eq_true rfl) ?_
  simp -dsimp (disch := first | omega | (simp only [List.length_cons, List.length_nil, List.length_map, List.length_append, List.length_take, List.length_drop, List.length_replicate, List.length_set, mkG_len] <;> omega) | fail) only [push_cast, if_pos, decide_eq_true, decide_eq_false, Nat.reduceAdd, Nat.reduceSub, Nat.reduceMul, Nat.reduceBEq, Nat.reduceEqDiff, Nat.reduceLT, Nat.reduceLeDiff, Int.reduceToNat, Int.reduceLE, Int.reduceLT, Int.reduceAdd, Int.reduceSub, Int.reduceMul, Int.reduceEq, Int.reduceNeg, ↓reduceIte, reduceCtorEq]
  refine callC (l1Width ..) ?_
  by_cases h : 1 ≤ w ∧ w ≤ 8
  · simp -dsimp (disch := first | omega | (simp only [inB, h, sumS, and_self, List.length_cons, List.length_nil, List.length_map, List.length_append, List.length_take, List.length_drop, List.length_replicate, List.length_set, mkG_len] <;> omega) | fail) only [push_cast, if_pos, decide_eq_true, decide_eq_false, inB, h, sumS, and_self, Nat.reduceAdd, Nat.reduceSub, Nat.reduceMul, Nat.reduceBEq, Nat.reduceEqDiff, Nat.reduceLT, Nat.reduceLeDiff, Int.reduceToNat, Int.reduceLE, Int.reduceLT, Int.reduceAdd, Int.reduceSub, Int.reduceMul, Int.reduceEq, Int.reduceNeg, ↓reduceIte, reduceCtorEq]
    refine callC (l1Sum64 _ ht) ?_
    simp -dsimp (disch := first | omega | (simp only [List.length_cons, List.length_nil, List.length_map, List.length_append, List.length_take, List.length_drop, List.length_replicate, List.length_set, mkG_len] <;> omega) | fail) only [push_cast, if_pos, decide_eq_true, decide_eq_false, Nat.reduceAdd, Nat.reduceSub, Nat.reduceMul, Nat.reduceBEq, Nat.reduceEqDiff, Nat.reduceLT, Nat.reduceLeDiff, Int.reduceToNat, Int.reduceLE, Int.reduceLT, Int.reduceAdd, Int.reduceSub, Int.reduceMul, Int.reduceEq, Int.reduceNeg, ↓reduceIte, reduceCtorEq]
    have := hash64_r (bt t)
    refine callC (l1Bytes _ _ this.1 this.2 (by omega) h.2) ?_
    simp -dsimp (disch := first | omega | (simp only [sumS, List.length_cons, List.length_nil, List.length_map, List.length_append, List.length_take, List.length_drop, List.length_replicate, List.length_set, mkG_len] <;> omega) | fail) only [push_cast, if_pos, decide_eq_true, decide_eq_false, sumS, Nat.reduceAdd, Nat.reduceSub, Nat.reduceMul, Nat.reduceBEq, Nat.reduceEqDiff, Nat.reduceLT, Nat.reduceLeDiff, Int.reduceToNat, Int.reduceLE, Int.reduceLT, Int.reduceAdd, Int.reduceSub, Int.reduceMul, Int.reduceEq, Int.reduceNeg, ↓reduceIte, reduceCtorEq]
  · simp -dsimp (disch := first | omega | (simp only [inB, h, sumS, em, List.length_cons, List.length_nil, List.length_map, List.length_append, List.length_take, List.length_drop, List.length_replicate, List.length_set, mkG_len] <;> omega) | fail) only [push_cast, if_pos, decide_eq_true, decide_eq_false, inB, h, sumS, em, Nat.reduceAdd, Nat.reduceSub, Nat.reduceMul, Nat.reduceBEq, Nat.reduceEqDiff, Nat.reduceLT, Nat.reduceLeDiff, Int.reduceToNat, Int.reduceLE, Int.reduceLT, Int.reduceAdd, Int.reduceSub, Int.reduceMul, Int.reduceEq, Int.reduceNeg, ↓reduceIte, reduceCtorEq]
def E87 : Env := { T := T0, kp := look [(0, [0, 1]), (1, [0, 1]), (2, []), (3, [0, 1]), (4, [1, 5]), (5, [1, 5, 6]), (6, [1, 5, 6, 16, 17]), (7, [1, 5, 6, 16, 17]), (8, [1, 5, 6, 7, 16, 17]), (9, [1, 5, 6, 16, 17]), (10, [6])] }
attribute [local push_cast] E87
theorem implSum (t : Str) (w : Int) (ht : t.size < 4611686018427387904) : Does Tryz.prog 87 [.sc (.string t), .sc (.int .i64 w)] (.sc (.string (sumS t w)), []) := by
  by_cases h : 1 ≤ w ∧ w ≤ 8
  rotate_left
  · refine does_of (E := E87) (rs := [.tmp 4]) (lent := []) tOk rfl Tryz.func87 rfl (by decide) rfl rfl (Nat.le_of_ble_eq_true rfl) (Nat.le_of_ble_eq_true rfl) ?_
    simp -dsimp (disch := first | omega | (simp only [List.length_cons, List.length_nil, List.length_map, List.length_append, List.length_take, List.length_drop, List.length_replicate, List.length_set, mkG_len] <;> omega) | fail) only [push_cast, if_pos, decide_eq_true, decide_eq_false, Nat.reduceAdd, Nat.reduceSub, Nat.reduceMul, Nat.reduceBEq, Nat.reduceEqDiff, Nat.reduceLT, Nat.reduceLeDiff, Int.reduceToNat, Int.reduceLE, Int.reduceLT, Int.reduceAdd, Int.reduceSub, Int.reduceMul, Int.reduceEq, Int.reduceNeg, ↓reduceIte, reduceCtorEq]
    refine callC (widthOk ..) ?_
    simp -dsimp (disch := first | omega | (simp only [inB, h, sumS, em, List.length_cons, List.length_nil, List.length_map, List.length_append, List.length_take, List.length_drop, List.length_replicate, List.length_set, mkG_len] <;> omega) | fail) only [push_cast, if_pos, decide_eq_true, decide_eq_false, inB, h, sumS, em, Nat.reduceAdd, Nat.reduceSub, Nat.reduceMul, Nat.reduceBEq, Nat.reduceEqDiff, Nat.reduceLT, Nat.reduceLeDiff, Int.reduceToNat, Int.reduceLE, Int.reduceLT, Int.reduceAdd, Int.reduceSub, Int.reduceMul, Int.reduceEq, Int.reduceNeg, ↓reduceIte, reduceCtorEq]
  obtain ⟨n, rfl⟩ : ∃ n : Nat, w = n := ⟨w.toNat, by omega⟩
  rw [show sumS t n = strN (be n (hash64 (bt t))) by unfold sumS; rw [if_pos h]; rfl]
  refine does_of (E := E87) (rs := [.tmp 4]) (lent := []) tOk rfl Tryz.func87 rfl (by decide) rfl rfl (Nat.le_of_ble_eq_true rfl) (Nat.le_of_ble_eq_true rfl) ?_
  simp -dsimp (disch := first | omega | (simp only [List.length_cons, List.length_nil, List.length_map, List.length_append, List.length_take, List.length_drop, List.length_replicate, List.length_set, mkG_len] <;> omega) | fail) only [push_cast, if_pos, decide_eq_true, decide_eq_false, Nat.reduceAdd, Nat.reduceSub, Nat.reduceMul, Nat.reduceBEq, Nat.reduceEqDiff, Nat.reduceLT, Nat.reduceLeDiff, Int.reduceToNat, Int.reduceLE, Int.reduceLT, Int.reduceAdd, Int.reduceSub, Int.reduceMul, Int.reduceEq, Int.reduceNeg, ↓reduceIte, reduceCtorEq]
  refine callC (widthOk ..) ?_
  simp -dsimp (disch := first | omega | (simp only [inB, h, and_self, List.length_cons, List.length_nil, List.length_map, List.length_append, List.length_take, List.length_drop, List.length_replicate, List.length_set, mkG_len] <;> omega) | fail) only [push_cast, if_pos, decide_eq_true, decide_eq_false, inB, h, and_self, Nat.reduceAdd, Nat.reduceSub, Nat.reduceMul, Nat.reduceBEq, Nat.reduceEqDiff, Nat.reduceLT, Nat.reduceLeDiff, Int.reduceToNat, Int.reduceLE, Int.reduceLT, Int.reduceAdd, Int.reduceSub, Int.reduceMul, Int.reduceEq, Int.reduceNeg, ↓reduceIte, reduceCtorEq]
  refine callC (sum64 _ ht) ?_
  have hr := hash64_r (bt t)
  generalize hash64 (bt t) = H at hr ⊢
  simp -dsimp (disch := first | omega | (simp only [List.length_cons, List.length_nil, List.length_map, List.length_append, List.length_take, List.length_drop, List.length_replicate, List.length_set, mkG_len] <;> omega) | fail) only [push_cast, if_pos, decide_eq_true, decide_eq_false, Nat.reduceAdd, Nat.reduceSub, Nat.reduceMul, Nat.reduceBEq, Nat.reduceEqDiff, Nat.reduceLT, Nat.reduceLeDiff, Int.reduceToNat, Int.reduceLE, Int.reduceLT, Int.reduceAdd, Int.reduceSub, Int.reduceMul, Int.reduceEq, Int.reduceNeg, ↓reduceIte, reduceCtorEq]
  refine loop_ind (α := Nat) (fun i => i ≤ n) (fun i => ⟨[(1, .sc (.int .i64 n)), (5, .sc (.int .u64 H)), (6, .ow 1 0 n), (16, .sc (.int .i64 n)), (17, .sc (.int .i64 i))], [(1, .ar 1 0 (((be n H).take i ++ List.replicate (n - i) 0).map numR))], 2⟩) (fun i => n - i) 0 (Nat.zero_le _) ?_ ?_
  · simp -dsimp (disch := first | omega | (simp only [List.map_replicate, numR, Nat.sub_zero, List.length_cons, List.length_nil, List.length_map, List.length_append, List.length_take, List.length_drop, List.length_replicate, List.length_set, mkG_len] <;> omega) | fail) only [push_cast, if_pos, decide_eq_true, decide_eq_false, List.map_replicate, numR, Nat.sub_zero, Nat.reduceAdd, Nat.reduceSub, Nat.reduceMul, Nat.reduceBEq, Nat.reduceEqDiff, Nat.reduceLT, Nat.reduceLeDiff, Int.reduceToNat, Int.reduceLE, Int.reduceLT, Int.reduceAdd, Int.reduceSub, Int.reduceMul, Int.reduceEq, Int.reduceNeg, ↓reduceIte, reduceCtorEq]
  intro i hi ih
  by_cases h2 : i < n
  · obtain ⟨x, hx⟩ := ex_get (show i < ((be n H).take i ++ List.replicate (n - i) 0).length by simp [be_len]; omega)
    have e : wr .u8 (H.fdiv (2 ^ (min (8 * ((n : Int) - 1 - i)).toNat IntKind.u64.bits))) = H / 256 ^ (n - 1 - i) % 256 := by
      rw [show (8 * ((n : Int) - 1 - i)).toNat = 8 * (n - 1 - i) by omega,
        show IntKind.u64.bits = 64 from rfl, Nat.min_eq_left (by omega), Int.pow_mul, wr_u8, Int.fdiv_eq_ediv_of_nonneg _ (Int.pow_nonneg (by decide))]
      rfl
    simp -dsimp (disch := first | omega | (simp only [wr_id, e, hx, numR, List.length_cons, List.length_nil, List.length_map, List.length_append, List.length_take, List.length_drop, List.length_replicate, List.length_set, mkG_len] <;> omega) | fail) only [push_cast, if_pos, decide_eq_true, decide_eq_false, wr_id, e, hx, numR, Nat.reduceAdd, Nat.reduceSub, Nat.reduceMul, Nat.reduceBEq, Nat.reduceEqDiff, Nat.reduceLT, Nat.reduceLeDiff, Int.reduceToNat, Int.reduceLE, Int.reduceLT, Int.reduceAdd, Int.reduceSub, Int.reduceMul, Int.reduceEq, Int.reduceNeg, ↓reduceIte, reduceCtorEq]
    refine ih (i + 1) _ (by omega) h2 ?_
    have ee : (((be n H).take i ++ List.replicate (n - i) 0).map numR).set i [.sc (.int .u8 (H / 256 ^ (n - 1 - i) % 256))] = ((be n H).take (i + 1) ++ List.replicate (n - (i + 1)) 0).map numR := by
      rw [show ([.sc (.int .u8 (H / 256 ^ (n - 1 - i) % 256))] : Row) = numR (H / 256 ^ (n - 1 - i) % 256) from rfl, ← List.map_set, take_step (be_get n H i h2), List.set_append_right _ _ (by simp [be_len]; omega), show n - i = n - (i + 1) + 1 by omega, List.replicate_succ]
      simp [be_len, Nat.min_eq_left hi]
    simp -dsimp (disch := first | omega | (simp only [wr_id, ee, List.length_cons, List.length_nil, List.length_map, List.length_append, List.length_take, List.length_drop, List.length_replicate, List.length_set, mkG_len] <;> omega) | fail) only [push_cast, if_pos, decide_eq_true, decide_eq_false, wr_id, ee, Nat.reduceAdd, Nat.reduceSub, Nat.reduceMul, Nat.reduceBEq, Nat.reduceEqDiff, Nat.reduceLT, Nat.reduceLeDiff, Int.reduceToNat, Int.reduceLE, Int.reduceLT, Int.reduceAdd, Int.reduceSub, Int.reduceMul, Int.reduceEq, Int.reduceNeg, ↓reduceIte, reduceCtorEq]
  · have hn : i = n := by omega
    subst hn
    have e : (be i H).take i ++ List.replicate (i - i) 0 = be i H := by rw [List.take_of_length_le (by rw [be_len]; omega)]; simp
    simp -dsimp (disch := first | omega | (simp only [e, be_len, bytesOf_num, strN, List.length_cons, List.length_nil, List.length_map, List.length_append, List.length_take, List.length_drop, List.length_replicate, List.length_set, mkG_len] <;> omega) | fail) only [push_cast, if_pos, decide_eq_true, decide_eq_false, e, be_len, bytesOf_num, strN, Nat.reduceAdd, Nat.reduceSub, Nat.reduceMul, Nat.reduceBEq, Nat.reduceEqDiff, Nat.reduceLT, Nat.reduceLeDiff, Int.reduceToNat, Int.reduceLE, Int.reduceLT, Int.reduceAdd, Int.reduceSub, Int.reduceMul, Int.reduceEq, Int.reduceNeg, ↓reduceIte, reduceCtorEq]
end Go.Proofs.YtgkncgiglmdnaaaGreatDoor.Mx

/- Lists of texts: copied, measured, held against each other, marked. -/
namespace Go.Proofs.YtgkncgiglmdnaaaGreatDoor.Mx
set_option linter.all false
open Go Go.RowKit Go.Proofs
def E99 : Env := { T := T0, kp := look [(0, [0, 1]), (1, [0, 1]), (2, [0, 1]), (3, []), (4, [0, 1]), (5, [0, 1, 5]), (6, [0, 1, 5]), (7, [0, 1, 5]), (8, [0, 1, 5]), (9, []), (10, [1])] }
attribute [local push_cast] E99
theorem szStringS (l : List Str) (x : Int) (x0 : 0 ≤ x) (x1 : x ≤ 1048576) (hb : bdL bdStr l) : Does Tryz.prog 99 [.sl false 1 (l.map strR), .sc (.int .i64 x)] (.sc (.int .i64 (szL szStr l x)), []) := by
  refine does_of (E := E99) (rs := [.tmp 4]) (lent := []) tOk rfl Tryz.func99 rfl (by decide) rfl rfl (Nat.le_of_ble_eq_true rfl) (Nat.le_of_ble_eq_true rfl) ?_
  have hb1 := hb.1
  by_cases h0 : x - l.length < 0
  · simp -dsimp (disch := first | omega | (simp only [wr_id, szL, h0, List.length_cons, List.length_nil, List.length_map, List.length_append, List.length_take, List.length_drop, List.length_replicate, List.length_set, mkG_len] <;> omega) | fail) only [push_cast, if_pos, decide_eq_true, decide_eq_false, wr_id, szL, h0, Nat.reduceAdd, Nat.reduceSub, Nat.reduceMul, Nat.reduceBEq, Nat.reduceEqDiff, Nat.reduceLT, Nat.reduceLeDiff, Int.reduceToNat, Int.reduceLE, Int.reduceLT, Int.reduceAdd, Int.reduceSub, Int.reduceMul, Int.reduceEq, Int.reduceNeg, ↓reduceIte, reduceCtorEq]
  simp -dsimp (disch := first | omega | (simp only [wr_id, szL, h0, List.length_cons, List.length_nil, List.length_map, List.length_append, List.length_take, List.length_drop, List.length_replicate, List.length_set, mkG_len] <;> omega) | fail) only [push_cast, if_pos, decide_eq_true, decide_eq_false, wr_id, szL, h0, Nat.reduceAdd, Nat.reduceSub, Nat.reduceMul, Nat.reduceBEq, Nat.reduceEqDiff, Nat.reduceLT, Nat.reduceLeDiff, Int.reduceToNat, Int.reduceLE, Int.reduceLT, Int.reduceAdd, Int.reduceSub, Int.reduceMul, Int.reduceEq, Int.reduceNeg, ↓reduceIte, reduceCtorEq]
  refine loop_ind (α := Nat × Int) (fun p => p.1 ≤ l.length ∧ 0 ≤ p.2 ∧ p.2 ≤ x ∧ szG szStr (l.drop p.1) p.2 = szG szStr l (x - l.length)) (fun p => ⟨[(0, .sl false 1 (l.map strR)), (1, .sc (.int .i64 p.2)), (5, .sc (.int .i64 p.1))], [], 1⟩) (fun p => l.length - p.1) (0, x - l.length) ⟨Nat.zero_le _, by omega, by omega, rfl⟩ ?_ ?_
  · simp -dsimp (disch := first | omega | (simp only [List.length_cons, List.length_nil, List.length_map, List.length_append, List.length_take, List.length_drop, List.length_replicate, List.length_set, mkG_len] <;> omega) | fail) only [push_cast, if_pos, decide_eq_true, decide_eq_false, Nat.reduceAdd, Nat.reduceSub, Nat.reduceMul, Nat.reduceBEq, Nat.reduceEqDiff, Nat.reduceLT, Nat.reduceLeDiff, Int.reduceToNat, Int.reduceLE, Int.reduceLT, Int.reduceAdd, Int.reduceSub, Int.reduceMul, Int.reduceEq, Int.reduceNeg, ↓reduceIte, reduceCtorEq]
  rintro ⟨i, y⟩ ⟨hi, hy0, hy1, hy⟩ ih
  by_cases h : i < l.length
  · obtain ⟨s, hx⟩ := ex_get h
    have hs := hb.2 s (List.mem_of_getElem? hx)
    unfold bdStr at hs
    rw [drop_step hx, szG] at hy
    by_cases h2 : y - s.size < 0
    · simp -dsimp (disch := first | omega | (simp only [hx, strR, wr_id, szL, h0, ← hy, szStr, h2, List.length_cons, List.length_nil, List.length_map, List.length_append, List.length_take, List.length_drop, List.length_replicate, List.length_set, mkG_len] <;> omega) | fail) only [push_cast, if_pos, decide_eq_true, decide_eq_false, hx, strR, wr_id, szL, h0, ← hy, szStr, h2, Nat.reduceAdd, Nat.reduceSub, Nat.reduceMul, Nat.reduceBEq, Nat.reduceEqDiff, Nat.reduceLT, Nat.reduceLeDiff, Int.reduceToNat, Int.reduceLE, Int.reduceLT, Int.reduceAdd, Int.reduceSub, Int.reduceMul, Int.reduceEq, Int.reduceNeg, ↓reduceIte, reduceCtorEq]
    · simp -dsimp (disch := first | omega | (simp only [hx, strR, wr_id, List.length_cons, List.length_nil, List.length_map, List.length_append, List.length_take, List.length_drop, List.length_replicate, List.length_set, mkG_len] <;> omega) | fail) only [push_cast, if_pos, decide_eq_true, decide_eq_false, hx, strR, wr_id, Nat.reduceAdd, Nat.reduceSub, Nat.reduceMul, Nat.reduceBEq, Nat.reduceEqDiff, Nat.reduceLT, Nat.reduceLeDiff, Int.reduceToNat, Int.reduceLE, Int.reduceLT, Int.reduceAdd, Int.reduceSub, Int.reduceMul, Int.reduceEq, Int.reduceNeg, ↓reduceIte, reduceCtorEq]
      refine ih (i + 1, y - s.size) _ (by simp; omega) ⟨h, by simp only []; omega, by simp only []; omega, ?_⟩ ?_
      · rw [← hy, szStr, if_neg h2]
      · simp -dsimp (disch := first | omega | (simp only [wr_id, List.length_cons, List.length_nil, List.length_map, List.length_append, List.length_take, List.length_drop, List.length_replicate, List.length_set, mkG_len] <;> omega) | fail) only [push_cast, if_pos, decide_eq_true, decide_eq_false, wr_id, Nat.reduceAdd, Nat.reduceSub, Nat.reduceMul, Nat.reduceBEq, Nat.reduceEqDiff, Nat.reduceLT, Nat.reduceLeDiff, Int.reduceToNat, Int.reduceLE, Int.reduceLT, Int.reduceAdd, Int.reduceSub, Int.reduceMul, Int.reduceEq, Int.reduceNeg, ↓reduceIte, reduceCtorEq]
  · rw [List.drop_eq_nil_of_le (by omega), szG] at hy
    simp -dsimp (disch := first | omega | (simp only [szL, h0, ← hy, List.length_cons, List.length_nil, List.length_map, List.length_append, List.length_take, List.length_drop, List.length_replicate, List.length_set, mkG_len] <;> omega) | fail) only [push_cast, if_pos, decide_eq_true, decide_eq_false, szL, h0, ← hy, Nat.reduceAdd, Nat.reduceSub, Nat.reduceMul, Nat.reduceBEq, Nat.reduceEqDiff, Nat.reduceLT, Nat.reduceLeDiff, Int.reduceToNat, Int.reduceLE, Int.reduceLT, Int.reduceAdd, Int.reduceSub, Int.reduceMul, Int.reduceEq, Int.reduceNeg, ↓reduceIte, reduceCtorEq]
def E103 : Env := { T := T0, kp := look [(0, [0]), (1, [0]), (2, [0, 3]), (3, [0, 3, 4]), (4, [0, 3, 4]), (5, [0, 3, 4]), (6, [3])] }
attribute [local push_cast] E103
theorem toStringS (l : List Str) (hb : okL okStr l) : Does Tryz.prog 103 [.sl false 1 (l.map strR)] (.sl true 1 (l.map strR), []) := by
  refine does_of (E := E103) (rs := [.tmp 2]) (lent := []) tOk rfl Tryz.func103 rfl (by decide) rfl rfl (Nat.le_of_ble_eq_true rfl) (Nat.le_of_ble_eq_true rfl) ?_
  have hb1 := hb.1
  simp -dsimp (disch := first | omega | (simp only [List.length_cons, List.length_nil, List.length_map, List.length_append, List.length_take, List.length_drop, List.length_replicate, List.length_set, mkG_len] <;> omega) | fail) only [push_cast, if_pos, decide_eq_true, decide_eq_false, Nat.reduceAdd, Nat.reduceSub, Nat.reduceMul, Nat.reduceBEq, Nat.reduceEqDiff, Nat.reduceLT, Nat.reduceLeDiff, Int.reduceToNat, Int.reduceLE, Int.reduceLT, Int.reduceAdd, Int.reduceSub, Int.reduceMul, Int.reduceEq, Int.reduceNeg, ↓reduceIte, reduceCtorEq]
  refine loop_ind (α := Nat) (fun i => i ≤ l.length) (fun i => ⟨[(0, .sl false 1 (l.map strR)), (3, .ow 1 0 l.length), (4, .sc (.int .i64 i))], [(1, .ar 1 0 ((l.take i ++ (List.replicate l.length em).drop i).map strR))], 2⟩) (fun i => l.length - i) 0 (Nat.zero_le _) ?_ ?_
  · simp -dsimp (disch := first | omega | (simp only [List.map_replicate, strR, em, List.length_cons, List.length_nil, List.length_map, List.length_append, List.length_take, List.length_drop, List.length_replicate, List.length_set, mkG_len] <;> omega) | fail) only [push_cast, if_pos, decide_eq_true, decide_eq_false, List.map_replicate, strR, em, Nat.reduceAdd, Nat.reduceSub, Nat.reduceMul, Nat.reduceBEq, Nat.reduceEqDiff, Nat.reduceLT, Nat.reduceLeDiff, Int.reduceToNat, Int.reduceLE, Int.reduceLT, Int.reduceAdd, Int.reduceSub, Int.reduceMul, Int.reduceEq, Int.reduceNeg, ↓reduceIte, reduceCtorEq]
  intro i hi ih
  by_cases h : i < l.length
  · obtain ⟨s, hx⟩ := ex_get h
    have hw := get_over (a := l) (b := List.replicate l.length em) (by simp) hi
    rw [List.getElem?_replicate, if_pos h] at hw
    have ee := congrArg (List.map strR) (set_over (b := List.replicate l.length em) (by simp) hx)
    rw [List.map_set] at ee
    simp -dsimp (disch := first | omega | (simp only [hx, hw, strR, List.length_cons, List.length_nil, List.length_map, List.length_append, List.length_take, List.length_drop, List.length_replicate, List.length_set, mkG_len] <;> omega) | fail) only [push_cast, if_pos, decide_eq_true, decide_eq_false, hx, hw, strR, Nat.reduceAdd, Nat.reduceSub, Nat.reduceMul, Nat.reduceBEq, Nat.reduceEqDiff, Nat.reduceLT, Nat.reduceLeDiff, Int.reduceToNat, Int.reduceLE, Int.reduceLT, Int.reduceAdd, Int.reduceSub, Int.reduceMul, Int.reduceEq, Int.reduceNeg, ↓reduceIte, reduceCtorEq]
    refine ih (i + 1) _ (by omega) h ?_
    unfold strR at ee ⊢
    simp -dsimp (disch := first | omega | (simp only [wr_id, ee, List.length_cons, List.length_nil, List.length_map, List.length_append, List.length_take, List.length_drop, List.length_replicate, List.length_set, mkG_len] <;> omega) | fail) only [push_cast, if_pos, decide_eq_true, decide_eq_false, wr_id, ee, Nat.reduceAdd, Nat.reduceSub, Nat.reduceMul, Nat.reduceBEq, Nat.reduceEqDiff, Nat.reduceLT, Nat.reduceLeDiff, Int.reduceToNat, Int.reduceLE, Int.reduceLT, Int.reduceAdd, Int.reduceSub, Int.reduceMul, Int.reduceEq, Int.reduceNeg, ↓reduceIte, reduceCtorEq]
  · have hn : i = l.length := by omega
    subst hn
    simp -dsimp (disch := first | omega | (simp only [List.take_length, List.drop_eq_nil_of_le, List.length_cons, List.length_nil, List.length_map, List.length_append, List.length_take, List.length_drop, List.length_replicate, List.length_set, mkG_len] <;> omega) | fail) only [push_cast, if_pos, decide_eq_true, decide_eq_false, List.take_length, List.drop_eq_nil_of_le, Nat.reduceAdd, Nat.reduceSub, Nat.reduceMul, Nat.reduceBEq, Nat.reduceEqDiff, Nat.reduceLT, Nat.reduceLeDiff, Int.reduceToNat, Int.reduceLE, Int.reduceLT, Int.reduceAdd, Int.reduceSub, Int.reduceMul, Int.reduceEq, Int.reduceNeg, ↓reduceIte, reduceCtorEq]
def E33 : Env := { T := T0, kp := look [(0, [0, 1]), (1, [0, 1]), (2, []), (3, [0, 1]), (4, [0, 1, 5]), (5, [0, 1, 5]), (6, [0, 1, 5]), (7, []), (8, [])], dp := look2 [(6, [[], [], [0, 1], [0, 1, 2], [], [], [4, 5], [4, 5, 6], [0, 1, 2, 3, 4, 5, 6, 7]])] }
attribute [local push_cast] E33
theorem eqStringS (a b : List Str) (hb : okL okStr b) : Does Tryz.prog 33 [.sl false 1 (a.map strR), .sl false 1 (b.map strR)] (.sc (.bool (decide (a = b))), []) := by
  refine does_of (E := E33) (rs := [.tmp 4]) (lent := []) tOk rfl Tryz.func33 rfl (by decide) rfl rfl (Nat.le_of_ble_eq_true rfl) (Nat.le_of_ble_eq_true rfl) ?_
  have hb1 := hb.1
  by_cases hl : a.length = b.length
  rotate_left
  · have : a ≠ b := fun h => hl (by rw [h])
    simp -dsimp (disch := first | omega | (simp only [this, List.length_cons, List.length_nil, List.length_map, List.length_append, List.length_take, List.length_drop, List.length_replicate, List.length_set, mkG_len] <;> omega) | fail) only [push_cast, if_pos, decide_eq_true, decide_eq_false, this, Nat.reduceAdd, Nat.reduceSub, Nat.reduceMul, Nat.reduceBEq, Nat.reduceEqDiff, Nat.reduceLT, Nat.reduceLeDiff, Int.reduceToNat, Int.reduceLE, Int.reduceLT, Int.reduceAdd, Int.reduceSub, Int.reduceMul, Int.reduceEq, Int.reduceNeg, ↓reduceIte, reduceCtorEq]
  simp -dsimp (disch := first | omega | (simp only [hl, List.length_cons, List.length_nil, List.length_map, List.length_append, List.length_take, List.length_drop, List.length_replicate, List.length_set, mkG_len] <;> omega) | fail) only [push_cast, if_pos, decide_eq_true, decide_eq_false, hl, Nat.reduceAdd, Nat.reduceSub, Nat.reduceMul, Nat.reduceBEq, Nat.reduceEqDiff, Nat.reduceLT, Nat.reduceLeDiff, Int.reduceToNat, Int.reduceLE, Int.reduceLT, Int.reduceAdd, Int.reduceSub, Int.reduceMul, Int.reduceEq, Int.reduceNeg, ↓reduceIte, reduceCtorEq]
  refine loop_ind (α := Nat) (fun i => i ≤ b.length ∧ a.take i = b.take i) (fun i => ⟨[(0, .sl false 1 (a.map strR)), (1, .sl false 1 (b.map strR)), (5, .sc (.int .i64 i))], [], 1⟩) (fun i => b.length - i) 0 ⟨Nat.zero_le _, rfl⟩ ?_ ?_
  · simp -dsimp (disch := first | omega | (simp only [List.length_cons, List.length_nil, List.length_map, List.length_append, List.length_take, List.length_drop, List.length_replicate, List.length_set, mkG_len] <;> omega) | fail) only [push_cast, if_pos, decide_eq_true, decide_eq_false, Nat.reduceAdd, Nat.reduceSub, Nat.reduceMul, Nat.reduceBEq, Nat.reduceEqDiff, Nat.reduceLT, Nat.reduceLeDiff, Int.reduceToNat, Int.reduceLE, Int.reduceLT, Int.reduceAdd, Int.reduceSub, Int.reduceMul, Int.reduceEq, Int.reduceNeg, ↓reduceIte, reduceCtorEq]
  intro i hi ih
  by_cases h : i < b.length
  · obtain ⟨x, hx⟩ := ex_get (hl ▸ h : i < a.length)
    obtain ⟨y, hy⟩ := ex_get h
    by_cases e : x = y
    · (simp -dsimp (disch := first | omega | (simp only [hx, hy, strR, e, List.length_cons, List.length_nil, List.length_map, List.length_append, List.length_take, List.length_drop, List.length_replicate, List.length_set, mkG_len] <;> omega) | fail) only [push_cast, if_pos, decide_eq_true, decide_eq_false, hx, hy, strR, e, Nat.reduceAdd, Nat.reduceSub, Nat.reduceMul, Nat.reduceBEq, Nat.reduceEqDiff, Nat.reduceLT, Nat.reduceLeDiff, Int.reduceToNat, Int.reduceLE, Int.reduceLT, Int.reduceAdd, Int.reduceSub, Int.reduceMul, Int.reduceEq, Int.reduceNeg, ↓reduceIte, reduceCtorEq]) <;> (repeat (refine (aw_draw (by kernel_rfl)).2 ?_; simp -dsimp (disch := first | omega | (simp only [hx, hy, strR, e, List.length_cons, List.length_nil, List.length_map, List.length_append, List.length_take, List.length_drop, List.length_replicate, List.length_set, mkG_len] <;> omega) | fail) only [push_cast, if_pos, decide_eq_true, decide_eq_false, hx, hy, strR, e, Nat.reduceAdd, Nat.reduceSub, Nat.reduceMul, Nat.reduceBEq, Nat.reduceEqDiff, Nat.reduceLT, Nat.reduceLeDiff, Int.reduceToNat, Int.reduceLE, Int.reduceLT, Int.reduceAdd, Int.reduceSub, Int.reduceMul, Int.reduceEq, Int.reduceNeg, ↓reduceIte, reduceCtorEq]))
      refine ih (i + 1) _ (by omega) ⟨h, by rw [take_step hx, take_step hy, hi.2, e]⟩ ?_
      simp -dsimp (disch := first | omega | (simp only [wr_id, List.length_cons, List.length_nil, List.length_map, List.length_append, List.length_take, List.length_drop, List.length_replicate, List.length_set, mkG_len] <;> omega) | fail) only [push_cast, if_pos, decide_eq_true, decide_eq_false, wr_id, Nat.reduceAdd, Nat.reduceSub, Nat.reduceMul, Nat.reduceBEq, Nat.reduceEqDiff, Nat.reduceLT, Nat.reduceLeDiff, Int.reduceToNat, Int.reduceLE, Int.reduceLT, Int.reduceAdd, Int.reduceSub, Int.reduceMul, Int.reduceEq, Int.reduceNeg, ↓reduceIte, reduceCtorEq]
    · have : a ≠ b := fun h' => e (by rw [h', hy] at hx; cases hx; rfl)
      (simp -dsimp (disch := first | omega | (simp only [hx, hy, strR, e, this, List.length_cons, List.length_nil, List.length_map, List.length_append, List.length_take, List.length_drop, List.length_replicate, List.length_set, mkG_len] <;> omega) | fail) only [push_cast, if_pos, decide_eq_true, decide_eq_false, hx, hy, strR, e, this, Nat.reduceAdd, Nat.reduceSub, Nat.reduceMul, Nat.reduceBEq, Nat.reduceEqDiff, Nat.reduceLT, Nat.reduceLeDiff, Int.reduceToNat, Int.reduceLE, Int.reduceLT, Int.reduceAdd, Int.reduceSub, Int.reduceMul, Int.reduceEq, Int.reduceNeg, ↓reduceIte, reduceCtorEq]) <;> (repeat (refine (aw_draw (by kernel_rfl)).2 ?_; simp -dsimp (disch := first | omega | (simp only [hx, hy, strR, e, this, List.length_cons, List.length_nil, List.length_map, List.length_append, List.length_take, List.length_drop, List.length_replicate, List.length_set, mkG_len] <;> omega) | fail) only [push_cast, if_pos, decide_eq_true, decide_eq_false, hx, hy, strR, e, this, Nat.reduceAdd, Nat.reduceSub, Nat.reduceMul, Nat.reduceBEq, Nat.reduceEqDiff, Nat.reduceLT, Nat.reduceLeDiff, Int.reduceToNat, Int.reduceLE, Int.reduceLT, Int.reduceAdd, Int.reduceSub, Int.reduceMul, Int.reduceEq, Int.reduceNeg, ↓reduceIte, reduceCtorEq]))
  · have : a = b := by
      have := hi.2
      rwa [List.take_of_length_le (by omega), List.take_of_length_le (by omega)] at this
    simp -dsimp (disch := first | omega | (simp only [this, List.length_cons, List.length_nil, List.length_map, List.length_append, List.length_take, List.length_drop, List.length_replicate, List.length_set, mkG_len] <;> omega) | fail) only [push_cast, if_pos, decide_eq_true, decide_eq_false, this, Nat.reduceAdd, Nat.reduceSub, Nat.reduceMul, Nat.reduceBEq, Nat.reduceEqDiff, Nat.reduceLT, Nat.reduceLeDiff, Int.reduceToNat, Int.reduceLE, Int.reduceLT, Int.reduceAdd, Int.reduceSub, Int.reduceMul, Int.reduceEq, Int.reduceNeg, ↓reduceIte, reduceCtorEq]
def E110 : Env := { T := T0, kp := look [(0, [0]), (1, [0]), (2, []), (3, [0]), (4, [0, 3]), (5, [0, 3]), (6, [0, 3]), (7, [3])] }
attribute [local push_cast] E110
theorem markText (k : Int) (hk : k < 2305843009213693952) : Does Tryz.prog 110 [.sc (.int .i64 k)] (.sc (.string (mtx k)), []) := by
  refine does_of (E := E110) (rs := [.tmp 2]) (lent := []) tOk rfl Tryz.func110 rfl (by decide) rfl rfl (Nat.le_of_ble_eq_true rfl) (Nat.le_of_ble_eq_true rfl) ?_
  by_cases h0 : k ≤ 0
  · simp -dsimp (disch := first | omega | (simp only [mtx, List.length_cons, List.length_nil, List.length_map, List.length_append, List.length_take, List.length_drop, List.length_replicate, List.length_set, mkG_len] <;> omega) | fail) only [push_cast, if_pos, decide_eq_true, decide_eq_false, mtx, Nat.reduceAdd, Nat.reduceSub, Nat.reduceMul, Nat.reduceBEq, Nat.reduceEqDiff, Nat.reduceLT, Nat.reduceLeDiff, Int.reduceToNat, Int.reduceLE, Int.reduceLT, Int.reduceAdd, Int.reduceSub, Int.reduceMul, Int.reduceEq, Int.reduceNeg, ↓reduceIte, reduceCtorEq]
    rfl
  obtain ⟨n, rfl⟩ : ∃ n : Nat, k = n := ⟨k.toNat, by omega⟩
  simp -dsimp (disch := first | omega | (simp only [List.length_cons, List.length_nil, List.length_map, List.length_append, List.length_take, List.length_drop, List.length_replicate, List.length_set, mkG_len] <;> omega) | fail) only [push_cast, if_pos, decide_eq_true, decide_eq_false, Nat.reduceAdd, Nat.reduceSub, Nat.reduceMul, Nat.reduceBEq, Nat.reduceEqDiff, Nat.reduceLT, Nat.reduceLeDiff, Int.reduceToNat, Int.reduceLE, Int.reduceLT, Int.reduceAdd, Int.reduceSub, Int.reduceMul, Int.reduceEq, Int.reduceNeg, ↓reduceIte, reduceCtorEq]
  refine loop_ind (α := Nat × List Int) (fun p => p.1 < 2305843009213693952 ∧ dig n = dig p.1 ++ p.2) (fun p => ⟨[(0, .sc (.int .i64 p.1)), (3, .sc (.string (strN p.2)))], [], 1⟩) (fun p => p.1) (n, []) ⟨by simp only []; omega, by simp⟩ ?_ ?_
  · simp -dsimp (disch := first | omega | (simp only [strN, List.length_cons, List.length_nil, List.length_map, List.length_append, List.length_take, List.length_drop, List.length_replicate, List.length_set, mkG_len] <;> omega) | fail) only [push_cast, if_pos, decide_eq_true, decide_eq_false, strN, Nat.reduceAdd, Nat.reduceSub, Nat.reduceMul, Nat.reduceBEq, Nat.reduceEqDiff, Nat.reduceLT, Nat.reduceLeDiff, Int.reduceToNat, Int.reduceLE, Int.reduceLT, Int.reduceAdd, Int.reduceSub, Int.reduceMul, Int.reduceEq, Int.reduceNeg, ↓reduceIte, reduceCtorEq]
  rintro ⟨m, l⟩ ⟨hm, hl⟩ ih
  dsimp only at hm hl
  have hn := dig_len n
  have hs : 1 + (l.length : Int) ≤ 4611686018427387904 := by rw [hl, List.length_append] at hn; omega
  by_cases h : m = 0
  · subst h
    rw [show dig 0 = [] by unfold dig; rfl] at hl
    have e : mtx n = strN [109] ++ strN l := by unfold mtx; rw [if_neg h0, Int.toNat_natCast, hl, strN_app]; rfl
    simp -dsimp (disch := first | omega | (simp only [e, show (⟨#[109]⟩ : ByteArray) = strN [109] from rfl, strN_size, List.length_cons, List.length_nil, List.length_map, List.length_append, List.length_take, List.length_drop, List.length_replicate, List.length_set, mkG_len] <;> omega) | fail) only [push_cast, if_pos, decide_eq_true, decide_eq_false, e, show (⟨#[109]⟩ : ByteArray) = strN [109] from rfl, strN_size, Nat.reduceAdd, Nat.reduceSub, Nat.reduceMul, Nat.reduceBEq, Nat.reduceEqDiff, Nat.reduceLT, Nat.reduceLeDiff, Int.reduceToNat, Int.reduceLE, Int.reduceLT, Int.reduceAdd, Int.reduceSub, Int.reduceMul, Int.reduceEq, Int.reduceNeg, ↓reduceIte, reduceCtorEq]
  · have e1 : ((m : Int).tmod 10) = (m : Int) % 10 := rfl
    have e2 : wr .u8 (48 + (m : Int) % 10) = 48 + (m : Int) % 10 := by rw [wr_u8]; omega
    have e3 : ((m : Int).tdiv 10) = (m : Int) / 10 := rfl
    simp -dsimp (disch := first | omega | (simp only [wr_id, e1, e2, e3, strN_one, strN_size, strN_app, List.length_cons, List.length_nil, List.length_map, List.length_append, List.length_take, List.length_drop, List.length_replicate, List.length_set, mkG_len] <;> omega) | fail) only [push_cast, if_pos, decide_eq_true, decide_eq_false, wr_id, e1, e2, e3, strN_one, strN_size, strN_app, Nat.reduceAdd, Nat.reduceSub, Nat.reduceMul, Nat.reduceBEq, Nat.reduceEqDiff, Nat.reduceLT, Nat.reduceLeDiff, Int.reduceToNat, Int.reduceLE, Int.reduceLT, Int.reduceAdd, Int.reduceSub, Int.reduceMul, Int.reduceEq, Int.reduceNeg, ↓reduceIte, reduceCtorEq]
    refine ih (m / 10, (48 + (m : Int) % 10) :: l) _ (by simp; omega) ⟨by simp only []; omega, ?_⟩ ?_
    · rw [hl]; conv => lhs; unfold dig; rw [dif_neg h]
      simp
    · simp -dsimp (disch := first | omega | (simp only [List.length_cons, List.length_nil, List.length_map, List.length_append, List.length_take, List.length_drop, List.length_replicate, List.length_set, mkG_len] <;> omega) | fail) only [push_cast, if_pos, decide_eq_true, decide_eq_false, Nat.reduceAdd, Nat.reduceSub, Nat.reduceMul, Nat.reduceBEq, Nat.reduceEqDiff, Nat.reduceLT, Nat.reduceLeDiff, Int.reduceToNat, Int.reduceLE, Int.reduceLT, Int.reduceAdd, Int.reduceSub, Int.reduceMul, Int.reduceEq, Int.reduceNeg, ↓reduceIte, reduceCtorEq]

def E35 : Env := { T := T0, kp := look [(0, [0, 1]), (1, [0, 1]), (2, [0, 1, 5]), (3, [0, 1, 5]), (4, [0, 1, 5]), (5, [0, 1, 5]), (6, [0, 1])] }
attribute [local push_cast] E35
theorem markStringS (l : List Str) (k : Int) (k0 : 0 ≤ k) (k1 : k + cnG c1 l < 2305843009213693952) : Does Tryz.prog 35 [.sl true 1 (l.map strR), .sc (.int .i64 k)] (.sc (.int .i64 (k + cnG c1 l)), [some (.sl true 1 ((mkG mkStr c1 l k).map strR))]) := by
  refine does_of (E := E35) (rs := [.tmp 4]) (lent := [true]) tOk rfl Tryz.func35 rfl (by decide) rfl rfl (Nat.le_of_ble_eq_true rfl) (Nat.le_of_ble_eq_true rfl) ?_
  have hM := mkG_len mkStr c1 l k
  generalize hm : mkG mkStr c1 l k = M at hM ⊢
  rw [cn1] at k1 ⊢
  simp -dsimp (disch := first | omega | (simp only [List.length_cons, List.length_nil, List.length_map, List.length_append, List.length_take, List.length_drop, List.length_replicate, List.length_set, mkG_len] <;> omega) | fail) only [push_cast, if_pos, decide_eq_true, decide_eq_false, Nat.reduceAdd, Nat.reduceSub, Nat.reduceMul, Nat.reduceBEq, Nat.reduceEqDiff, Nat.reduceLT, Nat.reduceLeDiff, Int.reduceToNat, Int.reduceLE, Int.reduceLT, Int.reduceAdd, Int.reduceSub, Int.reduceMul, Int.reduceEq, Int.reduceNeg, ↓reduceIte, reduceCtorEq]
  refine loop_ind (α := Nat) (fun i => i ≤ l.length) (fun i => ⟨[(0, .ow 1 0 l.length), (1, .sc (.int .i64 (k + i))), (5, .sc (.int .i64 i))], [(1, .ar 1 0 ((M.take i ++ l.drop i).map strR))], 2⟩) (fun i => l.length - i) 0 (Nat.zero_le _) ?_ ?_
  · simp -dsimp (disch := first | omega | (simp only [Int.add_zero, List.take_zero, List.drop_zero, List.length_cons, List.length_nil, List.length_map, List.length_append, List.length_take, List.length_drop, List.length_replicate, List.length_set, mkG_len] <;> omega) | fail) only [push_cast, if_pos, decide_eq_true, decide_eq_false, Int.add_zero, List.take_zero, List.drop_zero, Nat.reduceAdd, Nat.reduceSub, Nat.reduceMul, Nat.reduceBEq, Nat.reduceEqDiff, Nat.reduceLT, Nat.reduceLeDiff, Int.reduceToNat, Int.reduceLE, Int.reduceLT, Int.reduceAdd, Int.reduceSub, Int.reduceMul, Int.reduceEq, Int.reduceNeg, ↓reduceIte, reduceCtorEq]
  intro i hi ih
  by_cases h : i < l.length
  · obtain ⟨s, hx⟩ := ex_get h
    have hw := (get_over (a := M) (b := l) hM (by omega)).trans hx
    have hy : M[i]? = some (mtx (k + i)) := by rw [← hm, mkG_step hx, cn1, List.length_take, Nat.min_eq_left (by omega)]
    have ee := congrArg (List.map strR) (set_over hM hy)
    rw [List.map_set] at ee
    simp -dsimp (disch := first | omega | (simp only [List.length_cons, List.length_nil, List.length_map, List.length_append, List.length_take, List.length_drop, List.length_replicate, List.length_set, mkG_len] <;> omega) | fail) only [push_cast, if_pos, decide_eq_true, decide_eq_false, Nat.reduceAdd, Nat.reduceSub, Nat.reduceMul, Nat.reduceBEq, Nat.reduceEqDiff, Nat.reduceLT, Nat.reduceLeDiff, Int.reduceToNat, Int.reduceLE, Int.reduceLT, Int.reduceAdd, Int.reduceSub, Int.reduceMul, Int.reduceEq, Int.reduceNeg, ↓reduceIte, reduceCtorEq]
    refine callC (markText _ (by omega)) ?_
    simp -dsimp (disch := first | omega | (simp only [hw, List.length_cons, List.length_nil, List.length_map, List.length_append, List.length_take, List.length_drop, List.length_replicate, List.length_set, mkG_len] <;> omega) | fail) only [push_cast, if_pos, decide_eq_true, decide_eq_false, hw, Nat.reduceAdd, Nat.reduceSub, Nat.reduceMul, Nat.reduceBEq, Nat.reduceEqDiff, Nat.reduceLT, Nat.reduceLeDiff, Int.reduceToNat, Int.reduceLE, Int.reduceLT, Int.reduceAdd, Int.reduceSub, Int.reduceMul, Int.reduceEq, Int.reduceNeg, ↓reduceIte, reduceCtorEq]
    refine ih (i + 1) _ (by omega) h ?_
    unfold strR at ee ⊢
    simp -dsimp (disch := first | omega | (simp only [wr_id, ee, Int.add_assoc, List.length_cons, List.length_nil, List.length_map, List.length_append, List.length_take, List.length_drop, List.length_replicate, List.length_set, mkG_len] <;> omega) | fail) only [push_cast, if_pos, decide_eq_true, decide_eq_false, wr_id, ee, Int.add_assoc, Nat.reduceAdd, Nat.reduceSub, Nat.reduceMul, Nat.reduceBEq, Nat.reduceEqDiff, Nat.reduceLT, Nat.reduceLeDiff, Int.reduceToNat, Int.reduceLE, Int.reduceLT, Int.reduceAdd, Int.reduceSub, Int.reduceMul, Int.reduceEq, Int.reduceNeg, ↓reduceIte, reduceCtorEq]
  · have hn : i = l.length := by omega
    subst hn
    simp -dsimp (disch := first | omega | (simp only [List.take_of_length_le, List.drop_eq_nil_of_le, hM, Nat.le_refl, List.length_cons, List.length_nil, List.length_map, List.length_append, List.length_take, List.length_drop, List.length_replicate, List.length_set, mkG_len] <;> omega) | fail) only [push_cast, if_pos, decide_eq_true, decide_eq_false, List.take_of_length_le, List.drop_eq_nil_of_le, hM, Nat.le_refl, Nat.reduceAdd, Nat.reduceSub, Nat.reduceMul, Nat.reduceBEq, Nat.reduceEqDiff, Nat.reduceLT, Nat.reduceLeDiff, Int.reduceToNat, Int.reduceLE, Int.reduceLT, Int.reduceAdd, Int.reduceSub, Int.reduceMul, Int.reduceEq, Int.reduceNeg, ↓reduceIte, reduceCtorEq]
def E36 : Env := { T := T0, kp := look [(0, [0, 1]), (1, [0, 1]), (2, [0, 1, 5]), (3, [0, 1, 5]), (4, [0, 1, 5]), (5, []), (6, [0, 1, 5]), (7, [1])], dp := look2 [(4, [[], [], [0, 1], [0, 1, 2], [], [4], [0, 1, 2, 3, 4, 5]])] }
attribute [local push_cast] E36
theorem heldStringS (l : List Str) (k : Int) (k0 : 0 ≤ k) (k1 : k + cnG c1 l < 2305843009213693952) : Does Tryz.prog 36 [.sl false 1 (l.map strR), .sc (.int .i64 k)] (.sc (.int .i64 (hdG hdStr c1 l k)), []) := by
  refine does_of (E := E36) (rs := [.tmp 4]) (lent := []) tOk rfl Tryz.func36 rfl (by decide) rfl rfl (Nat.le_of_ble_eq_true rfl) (Nat.le_of_ble_eq_true rfl) ?_
  generalize hm : hdG hdStr c1 l k = M
  rw [cn1] at k1
  simp -dsimp (disch := first | omega | (simp only [List.length_cons, List.length_nil, List.length_map, List.length_append, List.length_take, List.length_drop, List.length_replicate, List.length_set, mkG_len] <;> omega) | fail) only [push_cast, if_pos, decide_eq_true, decide_eq_false, Nat.reduceAdd, Nat.reduceSub, Nat.reduceMul, Nat.reduceBEq, Nat.reduceEqDiff, Nat.reduceLT, Nat.reduceLeDiff, Int.reduceToNat, Int.reduceLE, Int.reduceLT, Int.reduceAdd, Int.reduceSub, Int.reduceMul, Int.reduceEq, Int.reduceNeg, ↓reduceIte, reduceCtorEq]
  refine loop_ind (α := Nat) (fun i => i ≤ l.length ∧ hdG hdStr c1 (l.drop i) (k + i) = M) (fun i => ⟨[(0, .sl false 1 (l.map strR)), (1, .sc (.int .i64 (k + i))), (5, .sc (.int .i64 i))], [], 1⟩) (fun i => l.length - i) 0 ⟨Nat.zero_le _, by simpa using hm⟩ ?_ ?_
  · simp -dsimp (disch := first | omega | (simp only [Int.add_zero, List.length_cons, List.length_nil, List.length_map, List.length_append, List.length_take, List.length_drop, List.length_replicate, List.length_set, mkG_len] <;> omega) | fail) only [push_cast, if_pos, decide_eq_true, decide_eq_false, Int.add_zero, Nat.reduceAdd, Nat.reduceSub, Nat.reduceMul, Nat.reduceBEq, Nat.reduceEqDiff, Nat.reduceLT, Nat.reduceLeDiff, Int.reduceToNat, Int.reduceLE, Int.reduceLT, Int.reduceAdd, Int.reduceSub, Int.reduceMul, Int.reduceEq, Int.reduceNeg, ↓reduceIte, reduceCtorEq]
  rintro i ⟨hi, hy⟩ ih
  by_cases h : i < l.length
  · obtain ⟨s, hx⟩ := ex_get h
    rw [drop_step hx, hdG] at hy
    (simp -dsimp (disch := first | omega | (simp only [hx, List.length_cons, List.length_nil, List.length_map, List.length_append, List.length_take, List.length_drop, List.length_replicate, List.length_set, mkG_len] <;> omega) | fail) only [push_cast, if_pos, decide_eq_true, decide_eq_false, hx, Nat.reduceAdd, Nat.reduceSub, Nat.reduceMul, Nat.reduceBEq, Nat.reduceEqDiff, Nat.reduceLT, Nat.reduceLeDiff, Int.reduceToNat, Int.reduceLE, Int.reduceLT, Int.reduceAdd, Int.reduceSub, Int.reduceMul, Int.reduceEq, Int.reduceNeg, ↓reduceIte, reduceCtorEq]) <;> (repeat (refine (aw_draw (by kernel_rfl)).2 ?_; simp -dsimp (disch := first | omega | (simp only [hx, List.length_cons, List.length_nil, List.length_map, List.length_append, List.length_take, List.length_drop, List.length_replicate, List.length_set, mkG_len] <;> omega) | fail) only [push_cast, if_pos, decide_eq_true, decide_eq_false, hx, Nat.reduceAdd, Nat.reduceSub, Nat.reduceMul, Nat.reduceBEq, Nat.reduceEqDiff, Nat.reduceLT, Nat.reduceLeDiff, Int.reduceToNat, Int.reduceLE, Int.reduceLT, Int.reduceAdd, Int.reduceSub, Int.reduceMul, Int.reduceEq, Int.reduceNeg, ↓reduceIte, reduceCtorEq]))
    refine callC (markText _ (by omega)) ?_
    by_cases e : s = mtx (k + i)
    · rw [if_pos (by simp [e])] at hy
      simp -dsimp (disch := first | omega | (simp only [e, List.length_cons, List.length_nil, List.length_map, List.length_append, List.length_take, List.length_drop, List.length_replicate, List.length_set, mkG_len] <;> omega) | fail) only [push_cast, if_pos, decide_eq_true, decide_eq_false, e, Nat.reduceAdd, Nat.reduceSub, Nat.reduceMul, Nat.reduceBEq, Nat.reduceEqDiff, Nat.reduceLT, Nat.reduceLeDiff, Int.reduceToNat, Int.reduceLE, Int.reduceLT, Int.reduceAdd, Int.reduceSub, Int.reduceMul, Int.reduceEq, Int.reduceNeg, ↓reduceIte, reduceCtorEq]
      refine ih (i + 1) _ (by omega) ⟨h, by rw [← hy, show k + ((i + 1 : Nat) : Int) = k + i + c1 s by show _ = k + i + 1; omega]⟩ ?_
      simp -dsimp (disch := first | omega | (simp only [wr_id, Int.add_assoc, List.length_cons, List.length_nil, List.length_map, List.length_append, List.length_take, List.length_drop, List.length_replicate, List.length_set, mkG_len] <;> omega) | fail) only [push_cast, if_pos, decide_eq_true, decide_eq_false, wr_id, Int.add_assoc, Nat.reduceAdd, Nat.reduceSub, Nat.reduceMul, Nat.reduceBEq, Nat.reduceEqDiff, Nat.reduceLT, Nat.reduceLeDiff, Int.reduceToNat, Int.reduceLE, Int.reduceLT, Int.reduceAdd, Int.reduceSub, Int.reduceMul, Int.reduceEq, Int.reduceNeg, ↓reduceIte, reduceCtorEq]
    · rw [if_neg (by simp [e])] at hy
      simp -dsimp (disch := first | omega | (simp only [e, ← hy, List.length_cons, List.length_nil, List.length_map, List.length_append, List.length_take, List.length_drop, List.length_replicate, List.length_set, mkG_len] <;> omega) | fail) only [push_cast, if_pos, decide_eq_true, decide_eq_false, e, ← hy, Nat.reduceAdd, Nat.reduceSub, Nat.reduceMul, Nat.reduceBEq, Nat.reduceEqDiff, Nat.reduceLT, Nat.reduceLeDiff, Int.reduceToNat, Int.reduceLE, Int.reduceLT, Int.reduceAdd, Int.reduceSub, Int.reduceMul, Int.reduceEq, Int.reduceNeg, ↓reduceIte, reduceCtorEq]
  · rw [List.drop_eq_nil_of_le (by omega), hdG] at hy
    simp -dsimp (disch := first | omega | (simp only [← hy, List.length_cons, List.length_nil, List.length_map, List.length_append, List.length_take, List.length_drop, List.length_replicate, List.length_set, mkG_len] <;> omega) | fail) only [push_cast, if_pos, decide_eq_true, decide_eq_false, ← hy, Nat.reduceAdd, Nat.reduceSub, Nat.reduceMul, Nat.reduceBEq, Nat.reduceEqDiff, Nat.reduceLT, Nat.reduceLeDiff, Int.reduceToNat, Int.reduceLE, Int.reduceLT, Int.reduceAdd, Int.reduceSub, Int.reduceMul, Int.reduceEq, Int.reduceNeg, ↓reduceIte, reduceCtorEq]
end Go.Proofs.YtgkncgiglmdnaaaGreatDoor.Mx

/- The laws' helpers run (By fam.py of this session.) -/
namespace Go.Proofs.YtgkncgiglmdnaaaGreatDoor.Mx
set_option linter.all false
open Go Go.RowKit Go.Proofs
set_option linter.unusedSimpArgs false
set_option linter.unusedVariables false
def E165 : Env := { T := T0, kp := look [(0, [0, 1]), (1, [2, 3]), (2, []), (3, [2, 3]), (4, []), (5, [])] }
attribute [local push_cast] E165
theorem eqItem (x y : Item) (hy : okItem y) : Does Tryz.prog 165 [.ag (itemC false x), .ag (itemC false y)] (.sc (.bool (decide (x = y))), []) := by
  refine does_of (E := E165) (rs := [.tmp 4]) (lent := []) tOk rfl Tryz.func165 rfl (by decide) rfl rfl (Nat.le_of_ble_eq_true rfl) (Nat.le_of_ble_eq_true rfl) ?_
  by_cases e0 : x.t = y.t
  rotate_left
  · have hn : x ≠ y := fun h => e0 (by rw [h])
    (simp -dsimp (disch := first | omega | (simp only [e0, hn, List.length_cons, List.length_nil, List.length_map, List.length_append, List.length_take, List.length_drop, List.length_replicate, List.length_set, mkG_len] <;> omega) | fail) only [push_cast, if_pos, decide_eq_true, decide_eq_false, e0, hn, Nat.reduceAdd, Nat.reduceSub, Nat.reduceMul, Nat.reduceBEq, Nat.reduceEqDiff, Nat.reduceLT, Nat.reduceLeDiff, Int.reduceToNat, Int.reduceLE, Int.reduceLT, Int.reduceAdd, Int.reduceSub, Int.reduceMul, Int.reduceEq, Int.reduceNeg, ↓reduceIte, reduceCtorEq]) <;> (repeat (refine (aw_draw (by kernel_rfl)).2 ?_; simp -dsimp (disch := first | omega | (simp only [e0, hn, List.length_cons, List.length_nil, List.length_map, List.length_append, List.length_take, List.length_drop, List.length_replicate, List.length_set, mkG_len] <;> omega) | fail) only [push_cast, if_pos, decide_eq_true, decide_eq_false, e0, hn, Nat.reduceAdd, Nat.reduceSub, Nat.reduceMul, Nat.reduceBEq, Nat.reduceEqDiff, Nat.reduceLT, Nat.reduceLeDiff, Int.reduceToNat, Int.reduceLE, Int.reduceLT, Int.reduceAdd, Int.reduceSub, Int.reduceMul, Int.reduceEq, Int.reduceNeg, ↓reduceIte, reduceCtorEq]))
  (simp -dsimp (disch := first | omega | (simp only [e0, List.length_cons, List.length_nil, List.length_map, List.length_append, List.length_take, List.length_drop, List.length_replicate, List.length_set, mkG_len] <;> omega) | fail) only [push_cast, if_pos, decide_eq_true, decide_eq_false, e0, Nat.reduceAdd, Nat.reduceSub, Nat.reduceMul, Nat.reduceBEq, Nat.reduceEqDiff, Nat.reduceLT, Nat.reduceLeDiff, Int.reduceToNat, Int.reduceLE, Int.reduceLT, Int.reduceAdd, Int.reduceSub, Int.reduceMul, Int.reduceEq, Int.reduceNeg, ↓reduceIte, reduceCtorEq]) <;> (repeat (refine (aw_draw (by kernel_rfl)).2 ?_; simp -dsimp (disch := first | omega | (simp only [e0, List.length_cons, List.length_nil, List.length_map, List.length_append, List.length_take, List.length_drop, List.length_replicate, List.length_set, mkG_len] <;> omega) | fail) only [push_cast, if_pos, decide_eq_true, decide_eq_false, e0, Nat.reduceAdd, Nat.reduceSub, Nat.reduceMul, Nat.reduceBEq, Nat.reduceEqDiff, Nat.reduceLT, Nat.reduceLeDiff, Int.reduceToNat, Int.reduceLE, Int.reduceLT, Int.reduceAdd, Int.reduceSub, Int.reduceMul, Int.reduceEq, Int.reduceNeg, ↓reduceIte, reduceCtorEq]))
  by_cases e1 : x.u = y.u
  rotate_left
  · have hn : x ≠ y := fun h => e1 (by rw [h])
    (simp -dsimp (disch := first | omega | (simp only [e1, hn, List.length_cons, List.length_nil, List.length_map, List.length_append, List.length_take, List.length_drop, List.length_replicate, List.length_set, mkG_len] <;> omega) | fail) only [push_cast, if_pos, decide_eq_true, decide_eq_false, e1, hn, Nat.reduceAdd, Nat.reduceSub, Nat.reduceMul, Nat.reduceBEq, Nat.reduceEqDiff, Nat.reduceLT, Nat.reduceLeDiff, Int.reduceToNat, Int.reduceLE, Int.reduceLT, Int.reduceAdd, Int.reduceSub, Int.reduceMul, Int.reduceEq, Int.reduceNeg, ↓reduceIte, reduceCtorEq]) <;> (repeat (refine (aw_draw (by kernel_rfl)).2 ?_; simp -dsimp (disch := first | omega | (simp only [e1, hn, List.length_cons, List.length_nil, List.length_map, List.length_append, List.length_take, List.length_drop, List.length_replicate, List.length_set, mkG_len] <;> omega) | fail) only [push_cast, if_pos, decide_eq_true, decide_eq_false, e1, hn, Nat.reduceAdd, Nat.reduceSub, Nat.reduceMul, Nat.reduceBEq, Nat.reduceEqDiff, Nat.reduceLT, Nat.reduceLeDiff, Int.reduceToNat, Int.reduceLE, Int.reduceLT, Int.reduceAdd, Int.reduceSub, Int.reduceMul, Int.reduceEq, Int.reduceNeg, ↓reduceIte, reduceCtorEq]))
  have hn : x = y := by cases x; cases y; simp_all
  (simp -dsimp (disch := first | omega | (simp only [e1, hn, List.length_cons, List.length_nil, List.length_map, List.length_append, List.length_take, List.length_drop, List.length_replicate, List.length_set, mkG_len] <;> omega) | fail) only [push_cast, if_pos, decide_eq_true, decide_eq_false, e1, hn, Nat.reduceAdd, Nat.reduceSub, Nat.reduceMul, Nat.reduceBEq, Nat.reduceEqDiff, Nat.reduceLT, Nat.reduceLeDiff, Int.reduceToNat, Int.reduceLE, Int.reduceLT, Int.reduceAdd, Int.reduceSub, Int.reduceMul, Int.reduceEq, Int.reduceNeg, ↓reduceIte, reduceCtorEq]) <;> (repeat (refine (aw_draw (by kernel_rfl)).2 ?_; simp -dsimp (disch := first | omega | (simp only [e1, hn, List.length_cons, List.length_nil, List.length_map, List.length_append, List.length_take, List.length_drop, List.length_replicate, List.length_set, mkG_len] <;> omega) | fail) only [push_cast, if_pos, decide_eq_true, decide_eq_false, e1, hn, Nat.reduceAdd, Nat.reduceSub, Nat.reduceMul, Nat.reduceBEq, Nat.reduceEqDiff, Nat.reduceLT, Nat.reduceLeDiff, Int.reduceToNat, Int.reduceLE, Int.reduceLT, Int.reduceAdd, Int.reduceSub, Int.reduceMul, Int.reduceEq, Int.reduceNeg, ↓reduceIte, reduceCtorEq]))
def E106 : Env := { T := T0, kp := look [(0, [0, 1]), (1, [0, 1]), (2, []), (3, [0, 1]), (4, [0, 1, 5]), (5, [0, 1, 5]), (6, [0, 1, 5]), (7, []), (8, [])], dp := look2 [(6, [[], [], [0, 1], [0, 1, 2], [], [], [4, 5], [4, 5, 6], [0, 1, 2, 3, 4, 5, 6, 7], [0, 1, 2, 3, 4, 5, 6, 7, 8]])] }
attribute [local push_cast] E106
theorem eqItemS (a b : List Item) (hb : okL okItem b) : Does Tryz.prog 106 [.sl false 2 (a.map (itemC false)), .sl false 2 (b.map (itemC false))] (.sc (.bool (decide (a = b))), []) := by
  refine does_of (E := E106) (rs := [.tmp 4]) (lent := []) tOk rfl Tryz.func106 rfl (by decide) rfl rfl (Nat.le_of_ble_eq_true rfl) (Nat.le_of_ble_eq_true rfl) ?_
  have hb1 := hb.1
  by_cases hl : a.length = b.length
  rotate_left
  · have : a ≠ b := fun h => hl (by rw [h])
    simp -dsimp (disch := first | omega | (simp only [this, List.length_cons, List.length_nil, List.length_map, List.length_append, List.length_take, List.length_drop, List.length_replicate, List.length_set, mkG_len] <;> omega) | fail) only [push_cast, if_pos, decide_eq_true, decide_eq_false, this, Nat.reduceAdd, Nat.reduceSub, Nat.reduceMul, Nat.reduceBEq, Nat.reduceEqDiff, Nat.reduceLT, Nat.reduceLeDiff, Int.reduceToNat, Int.reduceLE, Int.reduceLT, Int.reduceAdd, Int.reduceSub, Int.reduceMul, Int.reduceEq, Int.reduceNeg, ↓reduceIte, reduceCtorEq]
  simp -dsimp (disch := first | omega | (simp only [hl, List.length_cons, List.length_nil, List.length_map, List.length_append, List.length_take, List.length_drop, List.length_replicate, List.length_set, mkG_len] <;> omega) | fail) only [push_cast, if_pos, decide_eq_true, decide_eq_false, hl, Nat.reduceAdd, Nat.reduceSub, Nat.reduceMul, Nat.reduceBEq, Nat.reduceEqDiff, Nat.reduceLT, Nat.reduceLeDiff, Int.reduceToNat, Int.reduceLE, Int.reduceLT, Int.reduceAdd, Int.reduceSub, Int.reduceMul, Int.reduceEq, Int.reduceNeg, ↓reduceIte, reduceCtorEq]
  refine loop_ind (α := Nat) (fun i => i ≤ b.length ∧ a.take i = b.take i) (fun i => ⟨[(0, .sl false 2 (a.map (itemC false))), (1, .sl false 2 (b.map (itemC false))), (5, .sc (.int .i64 i))], [], 1⟩) (fun i => b.length - i) 0 ⟨Nat.zero_le _, rfl⟩ ?_ ?_
  · simp -dsimp (disch := first | omega | (simp only [List.length_cons, List.length_nil, List.length_map, List.length_append, List.length_take, List.length_drop, List.length_replicate, List.length_set, mkG_len] <;> omega) | fail) only [push_cast, if_pos, decide_eq_true, decide_eq_false, Nat.reduceAdd, Nat.reduceSub, Nat.reduceMul, Nat.reduceBEq, Nat.reduceEqDiff, Nat.reduceLT, Nat.reduceLeDiff, Int.reduceToNat, Int.reduceLE, Int.reduceLT, Int.reduceAdd, Int.reduceSub, Int.reduceMul, Int.reduceEq, Int.reduceNeg, ↓reduceIte, reduceCtorEq]
  intro i hi ih
  by_cases h : i < b.length
  · obtain ⟨x, hx⟩ := ex_get (hl ▸ h : i < a.length)
    obtain ⟨y, hy⟩ := ex_get h
    (simp -dsimp (disch := first | omega | (simp only [hx, hy, List.length_cons, List.length_nil, List.length_map, List.length_append, List.length_take, List.length_drop, List.length_replicate, List.length_set, mkG_len] <;> omega) | fail) only [push_cast, if_pos, decide_eq_true, decide_eq_false, hx, hy, Nat.reduceAdd, Nat.reduceSub, Nat.reduceMul, Nat.reduceBEq, Nat.reduceEqDiff, Nat.reduceLT, Nat.reduceLeDiff, Int.reduceToNat, Int.reduceLE, Int.reduceLT, Int.reduceAdd, Int.reduceSub, Int.reduceMul, Int.reduceEq, Int.reduceNeg, ↓reduceIte, reduceCtorEq]) <;> (repeat (refine (aw_draw (by kernel_rfl)).2 ?_; simp -dsimp (disch := first | omega | (simp only [hx, hy, List.length_cons, List.length_nil, List.length_map, List.length_append, List.length_take, List.length_drop, List.length_replicate, List.length_set, mkG_len] <;> omega) | fail) only [push_cast, if_pos, decide_eq_true, decide_eq_false, hx, hy, Nat.reduceAdd, Nat.reduceSub, Nat.reduceMul, Nat.reduceBEq, Nat.reduceEqDiff, Nat.reduceLT, Nat.reduceLeDiff, Int.reduceToNat, Int.reduceLE, Int.reduceLT, Int.reduceAdd, Int.reduceSub, Int.reduceMul, Int.reduceEq, Int.reduceNeg, ↓reduceIte, reduceCtorEq]))
    refine callC (eqItem x y (hb.2 y (List.mem_of_getElem? hy))) ?_
    by_cases e : x = y
    · simp -dsimp (disch := first | omega | (simp only [e, List.length_cons, List.length_nil, List.length_map, List.length_append, List.length_take, List.length_drop, List.length_replicate, List.length_set, mkG_len] <;> omega) | fail) only [push_cast, if_pos, decide_eq_true, decide_eq_false, e, Nat.reduceAdd, Nat.reduceSub, Nat.reduceMul, Nat.reduceBEq, Nat.reduceEqDiff, Nat.reduceLT, Nat.reduceLeDiff, Int.reduceToNat, Int.reduceLE, Int.reduceLT, Int.reduceAdd, Int.reduceSub, Int.reduceMul, Int.reduceEq, Int.reduceNeg, ↓reduceIte, reduceCtorEq]
      refine ih (i + 1) _ (by omega) ⟨h, by rw [take_step hx, take_step hy, hi.2, e]⟩ ?_
      simp -dsimp (disch := first | omega | (simp only [wr_id, List.length_cons, List.length_nil, List.length_map, List.length_append, List.length_take, List.length_drop, List.length_replicate, List.length_set, mkG_len] <;> omega) | fail) only [push_cast, if_pos, decide_eq_true, decide_eq_false, wr_id, Nat.reduceAdd, Nat.reduceSub, Nat.reduceMul, Nat.reduceBEq, Nat.reduceEqDiff, Nat.reduceLT, Nat.reduceLeDiff, Int.reduceToNat, Int.reduceLE, Int.reduceLT, Int.reduceAdd, Int.reduceSub, Int.reduceMul, Int.reduceEq, Int.reduceNeg, ↓reduceIte, reduceCtorEq]
    · have : a ≠ b := fun h' => e (by rw [h', hy] at hx; cases hx; rfl)
      simp -dsimp (disch := first | omega | (simp only [e, this, List.length_cons, List.length_nil, List.length_map, List.length_append, List.length_take, List.length_drop, List.length_replicate, List.length_set, mkG_len] <;> omega) | fail) only [push_cast, if_pos, decide_eq_true, decide_eq_false, e, this, Nat.reduceAdd, Nat.reduceSub, Nat.reduceMul, Nat.reduceBEq, Nat.reduceEqDiff, Nat.reduceLT, Nat.reduceLeDiff, Int.reduceToNat, Int.reduceLE, Int.reduceLT, Int.reduceAdd, Int.reduceSub, Int.reduceMul, Int.reduceEq, Int.reduceNeg, ↓reduceIte, reduceCtorEq]
  · have : a = b := by
      have := hi.2
      rwa [List.take_of_length_le (by omega), List.take_of_length_le (by omega)] at this
    simp -dsimp (disch := first | omega | (simp only [this, List.length_cons, List.length_nil, List.length_map, List.length_append, List.length_take, List.length_drop, List.length_replicate, List.length_set, mkG_len] <;> omega) | fail) only [push_cast, if_pos, decide_eq_true, decide_eq_false, this, Nat.reduceAdd, Nat.reduceSub, Nat.reduceMul, Nat.reduceBEq, Nat.reduceEqDiff, Nat.reduceLT, Nat.reduceLeDiff, Int.reduceToNat, Int.reduceLE, Int.reduceLT, Int.reduceAdd, Int.reduceSub, Int.reduceMul, Int.reduceEq, Int.reduceNeg, ↓reduceIte, reduceCtorEq]
def E162 : Env := { T := T0, kp := look [(0, [0, 1]), (1, [1, 2]), (2, [1]), (3, []), (4, [1])] }
attribute [local push_cast] E162
theorem szItem_run (a : Item) (x : Int) (x0 : 0 ≤ x) (x1 : x ≤ 1048576) (hb : bdItem a) : Does Tryz.prog 162 [.ag (itemC false a), .sc (.int .i64 x)] (.sc (.int .i64 (szItem a x)), []) := by
  refine does_of (E := E162) (rs := [.tmp 4]) (lent := []) tOk rfl Tryz.func162 rfl (by decide) rfl rfl (Nat.le_of_ble_eq_true rfl) (Nat.le_of_ble_eq_true rfl) ?_
  unfold bdItem at hb
  have b0 : a.t.size ≤ 9223372036854775807 := hb
  by_cases n0 : x - a.t.size < 0
  · have hv : szItem a x = -1 := by unfold szItem; rw [if_pos n0]
    (simp -dsimp (disch := first | omega | (simp only [wr_id, hv, List.length_cons, List.length_nil, List.length_map, List.length_append, List.length_take, List.length_drop, List.length_replicate, List.length_set, mkG_len] <;> omega) | fail) only [push_cast, if_pos, decide_eq_true, decide_eq_false, wr_id, hv, Nat.reduceAdd, Nat.reduceSub, Nat.reduceMul, Nat.reduceBEq, Nat.reduceEqDiff, Nat.reduceLT, Nat.reduceLeDiff, Int.reduceToNat, Int.reduceLE, Int.reduceLT, Int.reduceAdd, Int.reduceSub, Int.reduceMul, Int.reduceEq, Int.reduceNeg, ↓reduceIte, reduceCtorEq]) <;> (repeat (refine (aw_draw (by kernel_rfl)).2 ?_; simp -dsimp (disch := first | omega | (simp only [wr_id, hv, List.length_cons, List.length_nil, List.length_map, List.length_append, List.length_take, List.length_drop, List.length_replicate, List.length_set, mkG_len] <;> omega) | fail) only [push_cast, if_pos, decide_eq_true, decide_eq_false, wr_id, hv, Nat.reduceAdd, Nat.reduceSub, Nat.reduceMul, Nat.reduceBEq, Nat.reduceEqDiff, Nat.reduceLT, Nat.reduceLeDiff, Int.reduceToNat, Int.reduceLE, Int.reduceLT, Int.reduceAdd, Int.reduceSub, Int.reduceMul, Int.reduceEq, Int.reduceNeg, ↓reduceIte, reduceCtorEq]))
  have hv : szItem a x = x - a.t.size := by unfold szItem; rw [if_neg n0]
  (simp -dsimp (disch := first | omega | (simp only [wr_id, hv, List.length_cons, List.length_nil, List.length_map, List.length_append, List.length_take, List.length_drop, List.length_replicate, List.length_set, mkG_len] <;> omega) | fail) only [push_cast, if_pos, decide_eq_true, decide_eq_false, wr_id, hv, Nat.reduceAdd, Nat.reduceSub, Nat.reduceMul, Nat.reduceBEq, Nat.reduceEqDiff, Nat.reduceLT, Nat.reduceLeDiff, Int.reduceToNat, Int.reduceLE, Int.reduceLT, Int.reduceAdd, Int.reduceSub, Int.reduceMul, Int.reduceEq, Int.reduceNeg, ↓reduceIte, reduceCtorEq]) <;> (repeat (refine (aw_draw (by kernel_rfl)).2 ?_; simp -dsimp (disch := first | omega | (simp only [wr_id, hv, List.length_cons, List.length_nil, List.length_map, List.length_append, List.length_take, List.length_drop, List.length_replicate, List.length_set, mkG_len] <;> omega) | fail) only [push_cast, if_pos, decide_eq_true, decide_eq_false, wr_id, hv, Nat.reduceAdd, Nat.reduceSub, Nat.reduceMul, Nat.reduceBEq, Nat.reduceEqDiff, Nat.reduceLT, Nat.reduceLeDiff, Int.reduceToNat, Int.reduceLE, Int.reduceLT, Int.reduceAdd, Int.reduceSub, Int.reduceMul, Int.reduceEq, Int.reduceNeg, ↓reduceIte, reduceCtorEq]))
def E98 : Env := { T := T0, kp := look [(0, [0, 1]), (1, [0, 1]), (2, [0, 1]), (3, []), (4, [0, 1]), (5, [0, 1, 5]), (6, [0, 1, 5]), (7, [0, 1, 5]), (8, [0, 1, 5]), (9, []), (10, [1])] }
attribute [local push_cast] E98
theorem szItemS (l : List Item) (x : Int) (x0 : 0 ≤ x) (x1 : x ≤ 1048576) (hb : bdL bdItem l) : Does Tryz.prog 98 [.sl false 2 (l.map (itemC false)), .sc (.int .i64 x)] (.sc (.int .i64 (szL szItem l x)), []) := by
  refine does_of (E := E98) (rs := [.tmp 4]) (lent := []) tOk rfl Tryz.func98 rfl (by decide) rfl rfl (Nat.le_of_ble_eq_true rfl) (Nat.le_of_ble_eq_true rfl) ?_
  have hb1 := hb.1
  by_cases h0 : x - l.length < 0
  · simp -dsimp (disch := first | omega | (simp only [wr_id, szL, h0, List.length_cons, List.length_nil, List.length_map, List.length_append, List.length_take, List.length_drop, List.length_replicate, List.length_set, mkG_len] <;> omega) | fail) only [push_cast, if_pos, decide_eq_true, decide_eq_false, wr_id, szL, h0, Nat.reduceAdd, Nat.reduceSub, Nat.reduceMul, Nat.reduceBEq, Nat.reduceEqDiff, Nat.reduceLT, Nat.reduceLeDiff, Int.reduceToNat, Int.reduceLE, Int.reduceLT, Int.reduceAdd, Int.reduceSub, Int.reduceMul, Int.reduceEq, Int.reduceNeg, ↓reduceIte, reduceCtorEq]
  rw [show szL szItem l x = szG szItem l (x - l.length) by unfold szL; rw [if_neg h0]]
  generalize hM : szG szItem l (x - l.length) = M
  simp -dsimp (disch := first | omega | (simp only [wr_id, List.length_cons, List.length_nil, List.length_map, List.length_append, List.length_take, List.length_drop, List.length_replicate, List.length_set, mkG_len] <;> omega) | fail) only [push_cast, if_pos, decide_eq_true, decide_eq_false, wr_id, Nat.reduceAdd, Nat.reduceSub, Nat.reduceMul, Nat.reduceBEq, Nat.reduceEqDiff, Nat.reduceLT, Nat.reduceLeDiff, Int.reduceToNat, Int.reduceLE, Int.reduceLT, Int.reduceAdd, Int.reduceSub, Int.reduceMul, Int.reduceEq, Int.reduceNeg, ↓reduceIte, reduceCtorEq]
  refine loop_ind (α := Nat × Int) (fun p => p.1 ≤ l.length ∧ 0 ≤ p.2 ∧ p.2 ≤ x ∧ szG szItem (l.drop p.1) p.2 = M) (fun p => ⟨[(0, .sl false 2 (l.map (itemC false))), (1, .sc (.int .i64 p.2)), (5, .sc (.int .i64 p.1))], [], 1⟩) (fun p => l.length - p.1) (0, x - l.length) ⟨Nat.zero_le _, by omega, by omega, hM⟩ ?_ ?_
  · simp -dsimp (disch := first | omega | (simp only [List.length_cons, List.length_nil, List.length_map, List.length_append, List.length_take, List.length_drop, List.length_replicate, List.length_set, mkG_len] <;> omega) | fail) only [push_cast, if_pos, decide_eq_true, decide_eq_false, Nat.reduceAdd, Nat.reduceSub, Nat.reduceMul, Nat.reduceBEq, Nat.reduceEqDiff, Nat.reduceLT, Nat.reduceLeDiff, Int.reduceToNat, Int.reduceLE, Int.reduceLT, Int.reduceAdd, Int.reduceSub, Int.reduceMul, Int.reduceEq, Int.reduceNeg, ↓reduceIte, reduceCtorEq]
  rintro ⟨i, y⟩ ⟨hi, hy0, hy1, hy⟩ ih
  dsimp only at hi hy0 hy1 hy
  by_cases h : i < l.length
  · obtain ⟨s, hx⟩ := ex_get h
    rw [drop_step hx, szG] at hy
    (simp -dsimp (disch := first | omega | (simp only [hx, List.length_cons, List.length_nil, List.length_map, List.length_append, List.length_take, List.length_drop, List.length_replicate, List.length_set, mkG_len] <;> omega) | fail) only [push_cast, if_pos, decide_eq_true, decide_eq_false, hx, Nat.reduceAdd, Nat.reduceSub, Nat.reduceMul, Nat.reduceBEq, Nat.reduceEqDiff, Nat.reduceLT, Nat.reduceLeDiff, Int.reduceToNat, Int.reduceLE, Int.reduceLT, Int.reduceAdd, Int.reduceSub, Int.reduceMul, Int.reduceEq, Int.reduceNeg, ↓reduceIte, reduceCtorEq]) <;> (repeat (refine (aw_draw (by kernel_rfl)).2 ?_; simp -dsimp (disch := first | omega | (simp only [hx, List.length_cons, List.length_nil, List.length_map, List.length_append, List.length_take, List.length_drop, List.length_replicate, List.length_set, mkG_len] <;> omega) | fail) only [push_cast, if_pos, decide_eq_true, decide_eq_false, hx, Nat.reduceAdd, Nat.reduceSub, Nat.reduceMul, Nat.reduceBEq, Nat.reduceEqDiff, Nat.reduceLT, Nat.reduceLeDiff, Int.reduceToNat, Int.reduceLE, Int.reduceLT, Int.reduceAdd, Int.reduceSub, Int.reduceMul, Int.reduceEq, Int.reduceNeg, ↓reduceIte, reduceCtorEq]))
    refine callC (szItem_run s y hy0 (by omega) (hb.2 s (List.mem_of_getElem? hx))) ?_
    by_cases h2 : szItem s y < 0
    · rw [if_pos h2] at hy
      simp -dsimp (disch := first | omega | (simp only [← hy, List.length_cons, List.length_nil, List.length_map, List.length_append, List.length_take, List.length_drop, List.length_replicate, List.length_set, mkG_len] <;> omega) | fail) only [push_cast, if_pos, decide_eq_true, decide_eq_false, ← hy, Nat.reduceAdd, Nat.reduceSub, Nat.reduceMul, Nat.reduceBEq, Nat.reduceEqDiff, Nat.reduceLT, Nat.reduceLeDiff, Int.reduceToNat, Int.reduceLE, Int.reduceLT, Int.reduceAdd, Int.reduceSub, Int.reduceMul, Int.reduceEq, Int.reduceNeg, ↓reduceIte, reduceCtorEq]
    · rw [if_neg h2] at hy
      have := szItem_ok s y (by omega)
      simp -dsimp (disch := first | omega | (simp only [List.length_cons, List.length_nil, List.length_map, List.length_append, List.length_take, List.length_drop, List.length_replicate, List.length_set, mkG_len] <;> omega) | fail) only [push_cast, if_pos, decide_eq_true, decide_eq_false, Nat.reduceAdd, Nat.reduceSub, Nat.reduceMul, Nat.reduceBEq, Nat.reduceEqDiff, Nat.reduceLT, Nat.reduceLeDiff, Int.reduceToNat, Int.reduceLE, Int.reduceLT, Int.reduceAdd, Int.reduceSub, Int.reduceMul, Int.reduceEq, Int.reduceNeg, ↓reduceIte, reduceCtorEq]
      refine ih (i + 1, szItem s y) _ (by simp; omega) ⟨h, by simp only []; omega, by simp only []; omega, hy⟩ ?_
      simp -dsimp (disch := first | omega | (simp only [wr_id, List.length_cons, List.length_nil, List.length_map, List.length_append, List.length_take, List.length_drop, List.length_replicate, List.length_set, mkG_len] <;> omega) | fail) only [push_cast, if_pos, decide_eq_true, decide_eq_false, wr_id, Nat.reduceAdd, Nat.reduceSub, Nat.reduceMul, Nat.reduceBEq, Nat.reduceEqDiff, Nat.reduceLT, Nat.reduceLeDiff, Int.reduceToNat, Int.reduceLE, Int.reduceLT, Int.reduceAdd, Int.reduceSub, Int.reduceMul, Int.reduceEq, Int.reduceNeg, ↓reduceIte, reduceCtorEq]
  · rw [List.drop_eq_nil_of_le (by omega), szG] at hy
    simp -dsimp (disch := first | omega | (simp only [hy, List.length_cons, List.length_nil, List.length_map, List.length_append, List.length_take, List.length_drop, List.length_replicate, List.length_set, mkG_len] <;> omega) | fail) only [push_cast, if_pos, decide_eq_true, decide_eq_false, hy, Nat.reduceAdd, Nat.reduceSub, Nat.reduceMul, Nat.reduceBEq, Nat.reduceEqDiff, Nat.reduceLT, Nat.reduceLeDiff, Int.reduceToNat, Int.reduceLE, Int.reduceLT, Int.reduceAdd, Int.reduceSub, Int.reduceMul, Int.reduceEq, Int.reduceNeg, ↓reduceIte, reduceCtorEq]
def E164 : Env := { T := T0, kp := look [(0, [0]), (1, [1, 2]), (2, [1, 2, 3]), (3, [1, 2, 3]), (4, [2, 3])] }
attribute [local push_cast] E164
theorem toItem_run (x : Item) (hx : okItem x) : Does Tryz.prog 164 [.ag (itemC false x)] (.ag (itemC true x), []) := by
  refine does_of (E := E164) (rs := [.cell 2 125]) (lent := []) tOk rfl Tryz.func164 rfl (by decide) rfl rfl (Nat.le_of_ble_eq_true rfl) (Nat.le_of_ble_eq_true rfl) ?_
  (simp -dsimp (disch := first | omega | (simp only [List.length_cons, List.length_nil, List.length_map, List.length_append, List.length_take, List.length_drop, List.length_replicate, List.length_set, mkG_len] <;> omega) | fail) only [push_cast, if_pos, decide_eq_true, decide_eq_false, Nat.reduceAdd, Nat.reduceSub, Nat.reduceMul, Nat.reduceBEq, Nat.reduceEqDiff, Nat.reduceLT, Nat.reduceLeDiff, Int.reduceToNat, Int.reduceLE, Int.reduceLT, Int.reduceAdd, Int.reduceSub, Int.reduceMul, Int.reduceEq, Int.reduceNeg, ↓reduceIte, reduceCtorEq]) <;> (repeat (refine (aw_draw (by kernel_rfl)).2 ?_; simp -dsimp (disch := first | omega | (simp only [List.length_cons, List.length_nil, List.length_map, List.length_append, List.length_take, List.length_drop, List.length_replicate, List.length_set, mkG_len] <;> omega) | fail) only [push_cast, if_pos, decide_eq_true, decide_eq_false, Nat.reduceAdd, Nat.reduceSub, Nat.reduceMul, Nat.reduceBEq, Nat.reduceEqDiff, Nat.reduceLT, Nat.reduceLeDiff, Int.reduceToNat, Int.reduceLE, Int.reduceLT, Int.reduceAdd, Int.reduceSub, Int.reduceMul, Int.reduceEq, Int.reduceNeg, ↓reduceIte, reduceCtorEq]))
def E102 : Env := { T := T0, kp := look [(0, [0]), (1, [0]), (2, [0, 3]), (3, [0, 3, 4]), (4, [0, 3, 4]), (5, [0, 3, 4]), (6, [3])] }
attribute [local push_cast] E102
theorem toItemS (l : List Item) (hl : okL okItem l) : Does Tryz.prog 102 [.sl false 2 (l.map (itemC false))] (.sl true 2 (l.map (itemC true)), []) := by
  refine does_of (E := E102) (rs := [.tmp 2]) (lent := []) tOk rfl Tryz.func102 rfl (by decide) rfl rfl (Nat.le_of_ble_eq_true rfl) (Nat.le_of_ble_eq_true rfl) ?_
  have hl1 := hl.1
  obtain ⟨Z, hZ⟩ : ∃ Z : Item, Z = ⟨em, 0⟩ := ⟨_, rfl⟩
  have hz : ∀ k, List.replicate k (itemC true Z) = (List.replicate k Z).map (itemC true) := fun k => by simp
  simp -dsimp (disch := first | omega | (simp only [List.length_cons, List.length_nil, List.length_map, List.length_append, List.length_take, List.length_drop, List.length_replicate, List.length_set, mkG_len] <;> omega) | fail) only [push_cast, if_pos, decide_eq_true, decide_eq_false, Nat.reduceAdd, Nat.reduceSub, Nat.reduceMul, Nat.reduceBEq, Nat.reduceEqDiff, Nat.reduceLT, Nat.reduceLeDiff, Int.reduceToNat, Int.reduceLE, Int.reduceLT, Int.reduceAdd, Int.reduceSub, Int.reduceMul, Int.reduceEq, Int.reduceNeg, ↓reduceIte, reduceCtorEq]
  refine loop_ind (α := Nat) (fun i => i ≤ l.length) (fun i => ⟨[(0, .sl false 2 (l.map (itemC false))), (3, .ow 1 0 l.length), (4, .sc (.int .i64 i))], [(1, .ar 2 0 ((l.take i ++ (List.replicate l.length Z).drop i).map (itemC true)))], 2⟩) (fun i => l.length - i) 0 (Nat.zero_le _) ?_ ?_
  · simp -dsimp (disch := first | omega | (simp only [List.take_zero, List.drop_zero, List.map_replicate, hZ, em, List.length_cons, List.length_nil, List.length_map, List.length_append, List.length_take, List.length_drop, List.length_replicate, List.length_set, mkG_len] <;> omega) | fail) only [push_cast, if_pos, decide_eq_true, decide_eq_false, List.take_zero, List.drop_zero, List.map_replicate, hZ, em, Nat.reduceAdd, Nat.reduceSub, Nat.reduceMul, Nat.reduceBEq, Nat.reduceEqDiff, Nat.reduceLT, Nat.reduceLeDiff, Int.reduceToNat, Int.reduceLE, Int.reduceLT, Int.reduceAdd, Int.reduceSub, Int.reduceMul, Int.reduceEq, Int.reduceNeg, ↓reduceIte, reduceCtorEq]
  intro i hi ih
  by_cases h : i < l.length
  · obtain ⟨s, hx⟩ := ex_get h
    have hw := get_over (a := l) (b := List.replicate l.length Z) (by simp) hi
    rw [List.getElem?_replicate, if_pos h] at hw
    have ee := congrArg (List.map (itemC true)) (set_over (b := List.replicate l.length Z) (by simp) hx)
    rw [List.map_set] at ee
    (simp -dsimp (disch := first | omega | (simp only [hx, List.length_cons, List.length_nil, List.length_map, List.length_append, List.length_take, List.length_drop, List.length_replicate, List.length_set, mkG_len] <;> omega) | fail) only [push_cast, if_pos, decide_eq_true, decide_eq_false, hx, Nat.reduceAdd, Nat.reduceSub, Nat.reduceMul, Nat.reduceBEq, Nat.reduceEqDiff, Nat.reduceLT, Nat.reduceLeDiff, Int.reduceToNat, Int.reduceLE, Int.reduceLT, Int.reduceAdd, Int.reduceSub, Int.reduceMul, Int.reduceEq, Int.reduceNeg, ↓reduceIte, reduceCtorEq]) <;> (repeat (refine (aw_draw (by kernel_rfl)).2 ?_; simp -dsimp (disch := first | omega | (simp only [hx, List.length_cons, List.length_nil, List.length_map, List.length_append, List.length_take, List.length_drop, List.length_replicate, List.length_set, mkG_len] <;> omega) | fail) only [push_cast, if_pos, decide_eq_true, decide_eq_false, hx, Nat.reduceAdd, Nat.reduceSub, Nat.reduceMul, Nat.reduceBEq, Nat.reduceEqDiff, Nat.reduceLT, Nat.reduceLeDiff, Int.reduceToNat, Int.reduceLE, Int.reduceLT, Int.reduceAdd, Int.reduceSub, Int.reduceMul, Int.reduceEq, Int.reduceNeg, ↓reduceIte, reduceCtorEq]))
    refine callC (toItem_run s (hl.2 s (List.mem_of_getElem? hx))) ?_
    (simp -dsimp (disch := first | omega | (simp only [hw, List.length_cons, List.length_nil, List.length_map, List.length_append, List.length_take, List.length_drop, List.length_replicate, List.length_set, mkG_len] <;> omega) | fail) only [push_cast, if_pos, decide_eq_true, decide_eq_false, hw, Nat.reduceAdd, Nat.reduceSub, Nat.reduceMul, Nat.reduceBEq, Nat.reduceEqDiff, Nat.reduceLT, Nat.reduceLeDiff, Int.reduceToNat, Int.reduceLE, Int.reduceLT, Int.reduceAdd, Int.reduceSub, Int.reduceMul, Int.reduceEq, Int.reduceNeg, ↓reduceIte, reduceCtorEq]) <;> (repeat (refine (aw_draw (by kernel_rfl)).2 ?_; simp -dsimp (disch := first | omega | (simp only [hw, List.length_cons, List.length_nil, List.length_map, List.length_append, List.length_take, List.length_drop, List.length_replicate, List.length_set, mkG_len] <;> omega) | fail) only [push_cast, if_pos, decide_eq_true, decide_eq_false, hw, Nat.reduceAdd, Nat.reduceSub, Nat.reduceMul, Nat.reduceBEq, Nat.reduceEqDiff, Nat.reduceLT, Nat.reduceLeDiff, Int.reduceToNat, Int.reduceLE, Int.reduceLT, Int.reduceAdd, Int.reduceSub, Int.reduceMul, Int.reduceEq, Int.reduceNeg, ↓reduceIte, reduceCtorEq]))
    refine ih (i + 1) _ (by omega) h ?_
    unfold itemC at ee ⊢
    simp -dsimp (disch := first | omega | (simp only [wr_id, ee, List.length_cons, List.length_nil, List.length_map, List.length_append, List.length_take, List.length_drop, List.length_replicate, List.length_set, mkG_len] <;> omega) | fail) only [push_cast, if_pos, decide_eq_true, decide_eq_false, wr_id, ee, Nat.reduceAdd, Nat.reduceSub, Nat.reduceMul, Nat.reduceBEq, Nat.reduceEqDiff, Nat.reduceLT, Nat.reduceLeDiff, Int.reduceToNat, Int.reduceLE, Int.reduceLT, Int.reduceAdd, Int.reduceSub, Int.reduceMul, Int.reduceEq, Int.reduceNeg, ↓reduceIte, reduceCtorEq]
  · have hn : i = l.length := by omega
    subst hn
    simp -dsimp (disch := first | omega | (simp only [List.take_length, List.drop_eq_nil_of_le, List.length_cons, List.length_nil, List.length_map, List.length_append, List.length_take, List.length_drop, List.length_replicate, List.length_set, mkG_len] <;> omega) | fail) only [push_cast, if_pos, decide_eq_true, decide_eq_false, List.take_length, List.drop_eq_nil_of_le, Nat.reduceAdd, Nat.reduceSub, Nat.reduceMul, Nat.reduceBEq, Nat.reduceEqDiff, Nat.reduceLT, Nat.reduceLeDiff, Int.reduceToNat, Int.reduceLE, Int.reduceLT, Int.reduceAdd, Int.reduceSub, Int.reduceMul, Int.reduceEq, Int.reduceNeg, ↓reduceIte, reduceCtorEq]
end Go.Proofs.YtgkncgiglmdnaaaGreatDoor.Mx

/- A machine over values for Go functions, proved sound, and functions run on it: texts F36, F37, VB, F21, F38, F39. -/
import Derived.Test.YtkpgdbicefahjaaDoorFnNamesXag
import Derived.Test.YtkpgdbicefahjaaDoorFnNamesXah
import Derived.Test.YtkpgdbicefahjaaDoorFnNamesXaj
/- Clashes, of some kind; two things held against each other. -/
namespace Go.Proofs.YtkpgdbicefahjaaDoor.Mx
set_option linter.all false
open Go Go.RowKit Go.Proofs
set_option linter.unusedSimpArgs false
def clR (L : List Str) (w : Int) (r : Ans) : Prop := ∃ (x y : Str) (b : Bool), r = (.tu [.sc (.string x), .sc (.string y), .sc (.bool b)], []) ∧ (b = true → x ≠ y) ∧ (b = false → L.length ≤ 2000 → inB w 1 8 = true → nocl L w)
def E39 : Env := { T := T0, kp := look [(0, [0, 1]), (1, [0, 1]), (2, []), (3, [0, 1]), (4, [0, 1, 7]), (5, [0, 1, 7, 8]), (6, [0, 1, 7, 8]), (7, [0, 1, 7, 8]), (8, [0, 1, 7, 8, 9]), (9, [0, 1, 7, 8, 9, 10]), (10, [0, 1, 7, 8, 9, 10]), (11, [0, 1, 7, 8, 9, 10]), (12, [0, 8, 10]), (13, [0, 1, 7, 8, 9]), (14, [])], dp := look2 [(11, [[], [], [0, 1], [0, 1, 2], [], [0, 1, 2, 3, 4], [0, 1, 2, 3, 4, 5], [0, 1, 2, 3, 4, 5, 6], [0, 1, 2, 3, 4, 5, 6], [0, 1, 2, 3, 4, 5, 6, 7, 8], [0, 1, 2, 3, 4, 5, 6, 7, 8, 9], [0, 1, 2, 3, 4, 5, 6], [0, 1, 2, 3, 4, 5, 6], [0, 1, 2, 3, 4, 5, 6, 11, 12], [0, 1, 2, 3, 4, 5, 6, 11, 12, 13], [0, 1, 2, 3, 4, 5, 6, 7, 8, 9, 10, 11, 12, 13, 14], [0, 1, 2, 3, 4, 5, 6, 7, 8, 9, 10, 11, 12, 13, 14, 15]]), (12, [[], [], [0, 1], [0, 1, 2], [], [], [4, 5], [4, 5, 6], [0, 1, 2, 3], [0, 1, 2, 3, 4, 5, 6, 7, 8], [0, 1, 2, 3, 4, 5, 6, 7, 8, 9]])] }
attribute [local push_cast] E39
set_option maxRecDepth 20000 in
set_option maxHeartbeats 1000000 in
theorem specClash (L : List Str) (w : Int) (hL : L.length ≤ 2097152) (hz : ∀ x ∈ L, x.size ≤ 100000000) : ∃ r, clR L w r ∧ Does Tryd.prog 39 [.sl false 1 (L.map strR), .sc (.int .i64 w)] r := by
  refine does_ex (E := E39) (rs := [.tmp 4, .tmp 5, .tmp 6]) (lent := []) tOk rfl Tryd.func39 rfl (by decide) rfl rfl (Nat.le_of_ble_eq_true rfl) (Nat.le_of_ble_eq_true rfl) ?_
  (simp -dsimp (disch := first | omega | (simp only [List.length_cons, List.length_nil, List.length_map, List.length_append, List.length_take, List.length_drop, List.length_replicate, List.length_set, mkG_len] <;> omega) | fail) only [push_cast, if_pos, decide_eq_true, decide_eq_false, Nat.reduceAdd, Nat.reduceSub, Nat.reduceMul, Nat.reduceBEq, Nat.reduceEqDiff, Nat.reduceLT, Nat.reduceLeDiff, Int.reduceToNat, Int.reduceLE, Int.reduceLT, Int.reduceAdd, Int.reduceSub, Int.reduceMul, Int.reduceEq, Int.reduceNeg, ↓reduceIte, reduceCtorEq]) <;> (repeat (refine ex_draw (by kernel_rfl) ?_; simp -dsimp (disch := first | omega | (simp only [List.length_cons, List.length_nil, List.length_map, List.length_append, List.length_take, List.length_drop, List.length_replicate, List.length_set, mkG_len] <;> omega) | fail) only [push_cast, if_pos, decide_eq_true, decide_eq_false, Nat.reduceAdd, Nat.reduceSub, Nat.reduceMul, Nat.reduceBEq, Nat.reduceEqDiff, Nat.reduceLT, Nat.reduceLeDiff, Int.reduceToNat, Int.reduceLE, Int.reduceLT, Int.reduceAdd, Int.reduceSub, Int.reduceMul, Int.reduceEq, Int.reduceNeg, ↓reduceIte, reduceCtorEq]))
  refine ex_call (l1Width w) ?_
  cases hw : inB w 1 8 with
  | false =>
    (simp -dsimp (disch := first | omega | (simp only [List.length_cons, List.length_nil, List.length_map, List.length_append, List.length_take, List.length_drop, List.length_replicate, List.length_set, mkG_len] <;> omega) | fail) only [push_cast, if_pos, decide_eq_true, decide_eq_false, Nat.reduceAdd, Nat.reduceSub, Nat.reduceMul, Nat.reduceBEq, Nat.reduceEqDiff, Nat.reduceLT, Nat.reduceLeDiff, Int.reduceToNat, Int.reduceLE, Int.reduceLT, Int.reduceAdd, Int.reduceSub, Int.reduceMul, Int.reduceEq, Int.reduceNeg, ↓reduceIte, reduceCtorEq]) <;> (repeat (refine ex_draw (by kernel_rfl) ?_; simp -dsimp (disch := first | omega | (simp only [List.length_cons, List.length_nil, List.length_map, List.length_append, List.length_take, List.length_drop, List.length_replicate, List.length_set, mkG_len] <;> omega) | fail) only [push_cast, if_pos, decide_eq_true, decide_eq_false, Nat.reduceAdd, Nat.reduceSub, Nat.reduceMul, Nat.reduceBEq, Nat.reduceEqDiff, Nat.reduceLT, Nat.reduceLeDiff, Int.reduceToNat, Int.reduceLE, Int.reduceLT, Int.reduceAdd, Int.reduceSub, Int.reduceMul, Int.reduceEq, Int.reduceNeg, ↓reduceIte, reduceCtorEq]))
    exact ⟨_, ⟨_, _, _, rfl, fun h => (by cases h), fun _ _ h => (by rw [hw] at h; cases h)⟩, rfl⟩
  | true =>
  by_cases hb : 2000 < L.length
  · (simp -dsimp (disch := first | omega | (simp only [hb, List.length_cons, List.length_nil, List.length_map, List.length_append, List.length_take, List.length_drop, List.length_replicate, List.length_set, mkG_len] <;> omega) | fail) only [push_cast, if_pos, decide_eq_true, decide_eq_false, hb, Nat.reduceAdd, Nat.reduceSub, Nat.reduceMul, Nat.reduceBEq, Nat.reduceEqDiff, Nat.reduceLT, Nat.reduceLeDiff, Int.reduceToNat, Int.reduceLE, Int.reduceLT, Int.reduceAdd, Int.reduceSub, Int.reduceMul, Int.reduceEq, Int.reduceNeg, ↓reduceIte, reduceCtorEq]) <;> (repeat (refine ex_draw (by kernel_rfl) ?_; simp -dsimp (disch := first | omega | (simp only [hb, List.length_cons, List.length_nil, List.length_map, List.length_append, List.length_take, List.length_drop, List.length_replicate, List.length_set, mkG_len] <;> omega) | fail) only [push_cast, if_pos, decide_eq_true, decide_eq_false, hb, Nat.reduceAdd, Nat.reduceSub, Nat.reduceMul, Nat.reduceBEq, Nat.reduceEqDiff, Nat.reduceLT, Nat.reduceLeDiff, Int.reduceToNat, Int.reduceLE, Int.reduceLT, Int.reduceAdd, Int.reduceSub, Int.reduceMul, Int.reduceEq, Int.reduceNeg, ↓reduceIte, reduceCtorEq]))
    exact ⟨_, ⟨_, _, _, rfl, fun h => (by cases h), fun _ h => (by omega)⟩, rfl⟩
  (simp -dsimp (disch := first | omega | (simp only [hb, List.length_cons, List.length_nil, List.length_map, List.length_append, List.length_take, List.length_drop, List.length_replicate, List.length_set, mkG_len] <;> omega) | fail) only [push_cast, if_pos, decide_eq_true, decide_eq_false, hb, Nat.reduceAdd, Nat.reduceSub, Nat.reduceMul, Nat.reduceBEq, Nat.reduceEqDiff, Nat.reduceLT, Nat.reduceLeDiff, Int.reduceToNat, Int.reduceLE, Int.reduceLT, Int.reduceAdd, Int.reduceSub, Int.reduceMul, Int.reduceEq, Int.reduceNeg, ↓reduceIte, reduceCtorEq]) <;> (repeat (refine ex_draw (by kernel_rfl) ?_; simp -dsimp (disch := first | omega | (simp only [hb, List.length_cons, List.length_nil, List.length_map, List.length_append, List.length_take, List.length_drop, List.length_replicate, List.length_set, mkG_len] <;> omega) | fail) only [push_cast, if_pos, decide_eq_true, decide_eq_false, hb, Nat.reduceAdd, Nat.reduceSub, Nat.reduceMul, Nat.reduceBEq, Nat.reduceEqDiff, Nat.reduceLT, Nat.reduceLeDiff, Int.reduceToNat, Int.reduceLE, Int.reduceLT, Int.reduceAdd, Int.reduceSub, Int.reduceMul, Int.reduceEq, Int.reduceNeg, ↓reduceIte, reduceCtorEq]))
  refine ex_loop (α := Nat × List Str) (fun q => q.1 ≤ L.length ∧ q.2.length = q.1 ∧ (∀ j y, j < q.1 → L[j]? = some y → q.2[j]? = some (sumS y w)) ∧ ∀ i j x y, j < i → i < q.1 → L[i]? = some x → L[j]? = some y → sumS y w = sumS x w → y = x)
    (fun q => ⟨[(0, .sl false 1 (L.map strR)), (1, .sc (.int .i64 w)), (7, .ow 1 0 q.2.length), (8, .sc (.int .i64 q.1))], [(1, .ar 1 0 (q.2.map strR))], 2⟩)
    (fun q => L.length - q.1) (0, []) ⟨Nat.zero_le _, rfl, fun j y h => (by simp only at h; omega), fun i j x y _ h => (by simp only at h; omega)⟩ ?_ ?_
  · simp -dsimp (disch := first | omega | (simp only [List.length_cons, List.length_nil, List.length_map, List.length_append, List.length_take, List.length_drop, List.length_replicate, List.length_set, mkG_len] <;> omega) | fail) only [push_cast, if_pos, decide_eq_true, decide_eq_false, Nat.reduceAdd, Nat.reduceSub, Nat.reduceMul, Nat.reduceBEq, Nat.reduceEqDiff, Nat.reduceLT, Nat.reduceLeDiff, Int.reduceToNat, Int.reduceLE, Int.reduceLT, Int.reduceAdd, Int.reduceSub, Int.reduceMul, Int.reduceEq, Int.reduceNeg, ↓reduceIte, reduceCtorEq]
  rintro ⟨i, S⟩ ⟨hi, hS, hs, hp⟩ ih
  replace hi : i ≤ L.length := hi
  replace hS : S.length = i := hS
  replace hs : ∀ j y, j < i → L[j]? = some y → S[j]? = some (sumS y w) := hs
  replace hp : ∀ i' j x y, j < i' → i' < i → L[i']? = some x → L[j]? = some y → sumS y w = sumS x w → y = x := hp
  by_cases h : i < L.length
  · obtain ⟨x, hx⟩ := ex_get h
    have hxz := hz x (List.mem_of_getElem? hx)
    (simp -dsimp (disch := first | omega | (simp only [hx, List.length_cons, List.length_nil, List.length_map, List.length_append, List.length_take, List.length_drop, List.length_replicate, List.length_set, mkG_len] <;> omega) | fail) only [push_cast, if_pos, decide_eq_true, decide_eq_false, hx, Nat.reduceAdd, Nat.reduceSub, Nat.reduceMul, Nat.reduceBEq, Nat.reduceEqDiff, Nat.reduceLT, Nat.reduceLeDiff, Int.reduceToNat, Int.reduceLE, Int.reduceLT, Int.reduceAdd, Int.reduceSub, Int.reduceMul, Int.reduceEq, Int.reduceNeg, ↓reduceIte, reduceCtorEq]) <;> (repeat (refine ex_draw (by kernel_rfl) ?_; simp -dsimp (disch := first | omega | (simp only [hx, List.length_cons, List.length_nil, List.length_map, List.length_append, List.length_take, List.length_drop, List.length_replicate, List.length_set, mkG_len] <;> omega) | fail) only [push_cast, if_pos, decide_eq_true, decide_eq_false, hx, Nat.reduceAdd, Nat.reduceSub, Nat.reduceMul, Nat.reduceBEq, Nat.reduceEqDiff, Nat.reduceLT, Nat.reduceLeDiff, Int.reduceToNat, Int.reduceLE, Int.reduceLT, Int.reduceAdd, Int.reduceSub, Int.reduceMul, Int.reduceEq, Int.reduceNeg, ↓reduceIte, reduceCtorEq]))
    refine ex_call (specSum x w (by omega)) ?_
    (simp -dsimp (disch := first | omega | (simp only [List.length_cons, List.length_nil, List.length_map, List.length_append, List.length_take, List.length_drop, List.length_replicate, List.length_set, mkG_len] <;> omega) | fail) only [push_cast, if_pos, decide_eq_true, decide_eq_false, Nat.reduceAdd, Nat.reduceSub, Nat.reduceMul, Nat.reduceBEq, Nat.reduceEqDiff, Nat.reduceLT, Nat.reduceLeDiff, Int.reduceToNat, Int.reduceLE, Int.reduceLT, Int.reduceAdd, Int.reduceSub, Int.reduceMul, Int.reduceEq, Int.reduceNeg, ↓reduceIte, reduceCtorEq]) <;> (repeat (refine ex_draw (by kernel_rfl) ?_; simp -dsimp (disch := first | omega | (simp only [List.length_cons, List.length_nil, List.length_map, List.length_append, List.length_take, List.length_drop, List.length_replicate, List.length_set, mkG_len] <;> omega) | fail) only [push_cast, if_pos, decide_eq_true, decide_eq_false, Nat.reduceAdd, Nat.reduceSub, Nat.reduceMul, Nat.reduceBEq, Nat.reduceEqDiff, Nat.reduceLT, Nat.reduceLeDiff, Int.reduceToNat, Int.reduceLE, Int.reduceLT, Int.reduceAdd, Int.reduceSub, Int.reduceMul, Int.reduceEq, Int.reduceNeg, ↓reduceIte, reduceCtorEq]))
    refine ex_loop (α := Nat) (fun j => j ≤ i ∧ ∀ k y, k < j → L[k]? = some y → sumS y w = sumS x w → y = x)
      (fun j => ⟨[(0, .sl false 1 (L.map strR)), (1, .sc (.int .i64 w)), (7, .ow 1 0 S.length), (8, .sc (.int .i64 i)), (9, .sc (.string (sumS x w))), (10, .sc (.int .i64 j))], [(1, .ar 1 0 (S.map strR))], 2⟩)
      (fun j => i - j) 0 ⟨Nat.zero_le _, fun k y h => (by omega)⟩ ?_ ?_
    · simp -dsimp (disch := first | omega | (simp only [List.length_cons, List.length_nil, List.length_map, List.length_append, List.length_take, List.length_drop, List.length_replicate, List.length_set, mkG_len] <;> omega) | fail) only [push_cast, if_pos, decide_eq_true, decide_eq_false, Nat.reduceAdd, Nat.reduceSub, Nat.reduceMul, Nat.reduceBEq, Nat.reduceEqDiff, Nat.reduceLT, Nat.reduceLeDiff, Int.reduceToNat, Int.reduceLE, Int.reduceLT, Int.reduceAdd, Int.reduceSub, Int.reduceMul, Int.reduceEq, Int.reduceNeg, ↓reduceIte, reduceCtorEq]
    rintro j ⟨hj, hq⟩ ih2
    by_cases hji : j < i
    · obtain ⟨y, hy⟩ := ex_get (show j < L.length by omega)
      have hsy := hs j y hji hy
      have hjS : j < S.length := by omega
      by_cases e : sumS y w = sumS x w
      · by_cases e2 : y = x
        · (simp -dsimp (disch := first | omega | (simp only [hx, hy, hsy, e, e2, List.length_cons, List.length_nil, List.length_map, List.length_append, List.length_take, List.length_drop, List.length_replicate, List.length_set, mkG_len] <;> omega) | fail) only [push_cast, if_pos, decide_eq_true, decide_eq_false, hx, hy, hsy, e, e2, Nat.reduceAdd, Nat.reduceSub, Nat.reduceMul, Nat.reduceBEq, Nat.reduceEqDiff, Nat.reduceLT, Nat.reduceLeDiff, Int.reduceToNat, Int.reduceLE, Int.reduceLT, Int.reduceAdd, Int.reduceSub, Int.reduceMul, Int.reduceEq, Int.reduceNeg, ↓reduceIte, reduceCtorEq]) <;> (repeat (refine ex_draw (by kernel_rfl) ?_; simp -dsimp (disch := first | omega | (simp only [hx, hy, hsy, e, e2, List.length_cons, List.length_nil, List.length_map, List.length_append, List.length_take, List.length_drop, List.length_replicate, List.length_set, mkG_len] <;> omega) | fail) only [push_cast, if_pos, decide_eq_true, decide_eq_false, hx, hy, hsy, e, e2, Nat.reduceAdd, Nat.reduceSub, Nat.reduceMul, Nat.reduceBEq, Nat.reduceEqDiff, Nat.reduceLT, Nat.reduceLeDiff, Int.reduceToNat, Int.reduceLE, Int.reduceLT, Int.reduceAdd, Int.reduceSub, Int.reduceMul, Int.reduceEq, Int.reduceNeg, ↓reduceIte, reduceCtorEq]))
          refine ih2 (j + 1) _ (by omega) ⟨hji, fun k z hk hz2 he => ?_⟩ ?_
          · by_cases ek : k = j
            · subst ek; rw [hy] at hz2; cases hz2; exact e2
            · exact hq k z (by omega) hz2 he
          · simp -dsimp (disch := first | omega | (simp only [wr_id, List.length_cons, List.length_nil, List.length_map, List.length_append, List.length_take, List.length_drop, List.length_replicate, List.length_set, mkG_len] <;> omega) | fail) only [push_cast, if_pos, decide_eq_true, decide_eq_false, wr_id, Nat.reduceAdd, Nat.reduceSub, Nat.reduceMul, Nat.reduceBEq, Nat.reduceEqDiff, Nat.reduceLT, Nat.reduceLeDiff, Int.reduceToNat, Int.reduceLE, Int.reduceLT, Int.reduceAdd, Int.reduceSub, Int.reduceMul, Int.reduceEq, Int.reduceNeg, ↓reduceIte, reduceCtorEq]
        · (simp -dsimp (disch := first | omega | (simp only [hx, hy, hsy, e, e2, List.length_cons, List.length_nil, List.length_map, List.length_append, List.length_take, List.length_drop, List.length_replicate, List.length_set, mkG_len] <;> omega) | fail) only [push_cast, if_pos, decide_eq_true, decide_eq_false, hx, hy, hsy, e, e2, Nat.reduceAdd, Nat.reduceSub, Nat.reduceMul, Nat.reduceBEq, Nat.reduceEqDiff, Nat.reduceLT, Nat.reduceLeDiff, Int.reduceToNat, Int.reduceLE, Int.reduceLT, Int.reduceAdd, Int.reduceSub, Int.reduceMul, Int.reduceEq, Int.reduceNeg, ↓reduceIte, reduceCtorEq]) <;> (repeat (refine ex_draw (by kernel_rfl) ?_; simp -dsimp (disch := first | omega | (simp only [hx, hy, hsy, e, e2, List.length_cons, List.length_nil, List.length_map, List.length_append, List.length_take, List.length_drop, List.length_replicate, List.length_set, mkG_len] <;> omega) | fail) only [push_cast, if_pos, decide_eq_true, decide_eq_false, hx, hy, hsy, e, e2, Nat.reduceAdd, Nat.reduceSub, Nat.reduceMul, Nat.reduceBEq, Nat.reduceEqDiff, Nat.reduceLT, Nat.reduceLeDiff, Int.reduceToNat, Int.reduceLE, Int.reduceLT, Int.reduceAdd, Int.reduceSub, Int.reduceMul, Int.reduceEq, Int.reduceNeg, ↓reduceIte, reduceCtorEq]))
          exact ⟨_, ⟨y, x, true, rfl, fun _ => e2, fun h => (by cases h)⟩, rfl⟩
      · (simp -dsimp (disch := first | omega | (simp only [hx, hy, hsy, e, List.length_cons, List.length_nil, List.length_map, List.length_append, List.length_take, List.length_drop, List.length_replicate, List.length_set, mkG_len] <;> omega) | fail) only [push_cast, if_pos, decide_eq_true, decide_eq_false, hx, hy, hsy, e, Nat.reduceAdd, Nat.reduceSub, Nat.reduceMul, Nat.reduceBEq, Nat.reduceEqDiff, Nat.reduceLT, Nat.reduceLeDiff, Int.reduceToNat, Int.reduceLE, Int.reduceLT, Int.reduceAdd, Int.reduceSub, Int.reduceMul, Int.reduceEq, Int.reduceNeg, ↓reduceIte, reduceCtorEq]) <;> (repeat (refine ex_draw (by kernel_rfl) ?_; simp -dsimp (disch := first | omega | (simp only [hx, hy, hsy, e, List.length_cons, List.length_nil, List.length_map, List.length_append, List.length_take, List.length_drop, List.length_replicate, List.length_set, mkG_len] <;> omega) | fail) only [push_cast, if_pos, decide_eq_true, decide_eq_false, hx, hy, hsy, e, Nat.reduceAdd, Nat.reduceSub, Nat.reduceMul, Nat.reduceBEq, Nat.reduceEqDiff, Nat.reduceLT, Nat.reduceLeDiff, Int.reduceToNat, Int.reduceLE, Int.reduceLT, Int.reduceAdd, Int.reduceSub, Int.reduceMul, Int.reduceEq, Int.reduceNeg, ↓reduceIte, reduceCtorEq]))
        refine ih2 (j + 1) _ (by omega) ⟨hji, fun k z hk hz2 he => ?_⟩ ?_
        · by_cases ek : k = j
          · subst ek; rw [hy] at hz2; cases hz2; exact (e he).elim
          · exact hq k z (by omega) hz2 he
        · simp -dsimp (disch := first | omega | (simp only [wr_id, List.length_cons, List.length_nil, List.length_map, List.length_append, List.length_take, List.length_drop, List.length_replicate, List.length_set, mkG_len] <;> omega) | fail) only [push_cast, if_pos, decide_eq_true, decide_eq_false, wr_id, Nat.reduceAdd, Nat.reduceSub, Nat.reduceMul, Nat.reduceBEq, Nat.reduceEqDiff, Nat.reduceLT, Nat.reduceLeDiff, Int.reduceToNat, Int.reduceLE, Int.reduceLT, Int.reduceAdd, Int.reduceSub, Int.reduceMul, Int.reduceEq, Int.reduceNeg, ↓reduceIte, reduceCtorEq]
    · have hji : j = i := by omega
      subst hji
      (simp -dsimp (disch := first | omega | (simp only [List.length_cons, List.length_nil, List.length_map, List.length_append, List.length_take, List.length_drop, List.length_replicate, List.length_set, mkG_len] <;> omega) | fail) only [push_cast, if_pos, decide_eq_true, decide_eq_false, Nat.reduceAdd, Nat.reduceSub, Nat.reduceMul, Nat.reduceBEq, Nat.reduceEqDiff, Nat.reduceLT, Nat.reduceLeDiff, Int.reduceToNat, Int.reduceLE, Int.reduceLT, Int.reduceAdd, Int.reduceSub, Int.reduceMul, Int.reduceEq, Int.reduceNeg, ↓reduceIte, reduceCtorEq]) <;> (repeat (refine ex_draw (by kernel_rfl) ?_; simp -dsimp (disch := first | omega | (simp only [List.length_cons, List.length_nil, List.length_map, List.length_append, List.length_take, List.length_drop, List.length_replicate, List.length_set, mkG_len] <;> omega) | fail) only [push_cast, if_pos, decide_eq_true, decide_eq_false, Nat.reduceAdd, Nat.reduceSub, Nat.reduceMul, Nat.reduceBEq, Nat.reduceEqDiff, Nat.reduceLT, Nat.reduceLeDiff, Int.reduceToNat, Int.reduceLE, Int.reduceLT, Int.reduceAdd, Int.reduceSub, Int.reduceMul, Int.reduceEq, Int.reduceNeg, ↓reduceIte, reduceCtorEq]))
      refine ih (j + 1, S ++ [sumS x w]) _ (by show L.length - (j + 1) < L.length - j; omega) ⟨h, by simp only [List.length_append, List.length_cons, List.length_nil]; omega, fun k y hk hy => ?_, fun i' k x' y hk hi' hx' hy he => ?_⟩ ?_
      · show (S ++ [sumS x w])[k]? = _
        by_cases ek : k = j
        · subst ek; rw [hx] at hy; cases hy
          rw [List.getElem?_append_right (by omega), hS, Nat.sub_self]; rfl
        · replace hk : k < j + 1 := hk
          rw [List.getElem?_append_left (by omega)]; exact hs k y (by omega) hy
      · replace hi' : i' < j + 1 := hi'
        by_cases ei : i' = j
        · subst ei; rw [hx] at hx'; cases hx'; exact hq k y hk hy he
        · exact hp i' k x' y hk (by omega) hx' hy he
      · simp -dsimp (disch := first | omega | (simp only [wr_id, List.map_append, List.length_append, List.length_cons, List.length_nil, List.length_cons, List.length_nil, List.length_map, List.length_append, List.length_take, List.length_drop, List.length_replicate, List.length_set, mkG_len] <;> omega) | fail) only [push_cast, if_pos, decide_eq_true, decide_eq_false, wr_id, List.map_append, List.length_append, List.length_cons, List.length_nil, Nat.reduceAdd, Nat.reduceSub, Nat.reduceMul, Nat.reduceBEq, Nat.reduceEqDiff, Nat.reduceLT, Nat.reduceLeDiff, Int.reduceToNat, Int.reduceLE, Int.reduceLT, Int.reduceAdd, Int.reduceSub, Int.reduceMul, Int.reduceEq, Int.reduceNeg, ↓reduceIte, reduceCtorEq]
  · have hi : i = L.length := by omega
    (simp -dsimp (disch := first | omega | (simp only [hi, List.length_cons, List.length_nil, List.length_map, List.length_append, List.length_take, List.length_drop, List.length_replicate, List.length_set, mkG_len] <;> omega) | fail) only [push_cast, if_pos, decide_eq_true, decide_eq_false, hi, Nat.reduceAdd, Nat.reduceSub, Nat.reduceMul, Nat.reduceBEq, Nat.reduceEqDiff, Nat.reduceLT, Nat.reduceLeDiff, Int.reduceToNat, Int.reduceLE, Int.reduceLT, Int.reduceAdd, Int.reduceSub, Int.reduceMul, Int.reduceEq, Int.reduceNeg, ↓reduceIte, reduceCtorEq]) <;> (repeat (refine ex_draw (by kernel_rfl) ?_; simp -dsimp (disch := first | omega | (simp only [hi, List.length_cons, List.length_nil, List.length_map, List.length_append, List.length_take, List.length_drop, List.length_replicate, List.length_set, mkG_len] <;> omega) | fail) only [push_cast, if_pos, decide_eq_true, decide_eq_false, hi, Nat.reduceAdd, Nat.reduceSub, Nat.reduceMul, Nat.reduceBEq, Nat.reduceEqDiff, Nat.reduceLT, Nat.reduceLeDiff, Int.reduceToNat, Int.reduceLE, Int.reduceLT, Int.reduceAdd, Int.reduceSub, Int.reduceMul, Int.reduceEq, Int.reduceNeg, ↓reduceIte, reduceCtorEq]))
    refine ⟨_, ⟨_, _, _, rfl, fun h => (by cases h), fun _ _ _ => ?_⟩, rfl⟩
    intro u hu v hv he
    obtain ⟨a, ha⟩ := List.getElem?_of_mem hu
    obtain ⟨b, hb2⟩ := List.getElem?_of_mem hv
    have la := (List.getElem?_eq_some_iff.1 ha).1
    have lb := (List.getElem?_eq_some_iff.1 hb2).1
    rcases Nat.lt_trichotomy a b with q | q | q
    · exact hp b a v u q (by omega) hb2 ha he
    · subst q; rw [ha] at hb2; cases hb2; rfl
    · exact (hp a b u v q (by omega) ha hb2 he.symm).symm
end Go.Proofs.YtkpgdbicefahjaaDoor.Mx

/- Two things held against each other. -/
namespace Go.Proofs.YtkpgdbicefahjaaDoor.Mx
set_option linter.all false
open Go Go.RowKit Go.Proofs
set_option linter.unusedSimpArgs false
def twR (a b : Str) (w : Int) (r : Ans) : Prop := ∃ v : Bool, r = (.sc (.bool v), []) ∧ (v = false → inB w 1 8 = true → nocl (twoL a b w) w)
theorem two_sz {a b : Str} {w : Int} : ∀ x ∈ twoL a b w, x.size ≤ 100000000 := by
  intro x hx
  unfold twoL at hx
  simp only [List.mem_append, List.mem_singleton] at hx
  rcases hx with ((h | h) | h) | h
  · subst h; exact Nat.le_trans formL_len (by omega)
  · exact Nat.le_trans (pieces_sz h) (by omega)
  · subst h; exact Nat.le_trans formL_len (by omega)
  · exact Nat.le_trans (pieces_sz h) (by omega)
def E15 : Env := { T := T0, kp := look [(0, [0, 1, 2]), (1, [0, 1, 2]), (2, [1, 2, 7]), (3, [2, 7]), (4, [8, 9, 10])] }
attribute [local push_cast] E15
set_option maxRecDepth 20000 in
set_option maxHeartbeats 1000000 in
theorem wTwo (a b : Str) (w : Int) (ha : a.size ≤ 100000000) (hb : b.size ≤ 100000000) : ∃ r, twR a b w r ∧ Does Tryd.prog 15 [.sc (.string a), .sc (.string b), .sc (.int .i64 w)] r := by
  refine does_ex (E := E15) (rs := [.tmp 6]) (lent := []) tOk rfl Tryd.func15 rfl (by decide) rfl rfl (Nat.le_of_ble_eq_true rfl) (Nat.le_of_ble_eq_true rfl) ?_
  have la := pieces_len8 a
  have lb := pieces_len8 b
  have da := desc_len (t := a) (w := w)
  have db := desc_len (t := b) (w := w)
  have fa := formL_len (l := (descL a w).1) (w := w)
  have fb := formL_len (l := (descL b w).1) (w := w)
  obtain ⟨L, hL⟩ : ∃ L, L = twoL a b w := ⟨_, rfl⟩
  have hz : ∀ x ∈ L, x.size ≤ 100000000 := hL ▸ two_sz
  have hl := two_len a b w
  unfold twR
  rw [← hL] at hl ⊢
  have hrow : [AV.sc (Value.string (formL (descL a w).1 w))] :: ((piecesL a).map strR ++ [[AV.sc (Value.string (formL (descL b w).1 w))]] ++ (piecesL b).map strR) = L.map strR := by
    rw [hL]; unfold twoL; simp [strR]
  (simp -dsimp (disch := first | omega | (simp only [List.length_cons, List.length_nil, List.length_map, List.length_append, List.length_take, List.length_drop, List.length_replicate, List.length_set, mkG_len] <;> omega) | fail) only [push_cast, if_pos, decide_eq_true, decide_eq_false, Nat.reduceAdd, Nat.reduceSub, Nat.reduceMul, Nat.reduceBEq, Nat.reduceEqDiff, Nat.reduceLT, Nat.reduceLeDiff, Int.reduceToNat, Int.reduceLE, Int.reduceLT, Int.reduceAdd, Int.reduceSub, Int.reduceMul, Int.reduceEq, Int.reduceNeg, ↓reduceIte, reduceCtorEq]) <;> (repeat (refine ex_draw (by kernel_rfl) ?_; simp -dsimp (disch := first | omega | (simp only [List.length_cons, List.length_nil, List.length_map, List.length_append, List.length_take, List.length_drop, List.length_replicate, List.length_set, mkG_len] <;> omega) | fail) only [push_cast, if_pos, decide_eq_true, decide_eq_false, Nat.reduceAdd, Nat.reduceSub, Nat.reduceMul, Nat.reduceBEq, Nat.reduceEqDiff, Nat.reduceLT, Nat.reduceLeDiff, Int.reduceToNat, Int.reduceLE, Int.reduceLT, Int.reduceAdd, Int.reduceSub, Int.reduceMul, Int.reduceEq, Int.reduceNeg, ↓reduceIte, reduceCtorEq]))
  refine ex_call (specDescribe a w ha) ?_
  (simp -dsimp (disch := first | omega | (simp only [List.length_cons, List.length_nil, List.length_map, List.length_append, List.length_take, List.length_drop, List.length_replicate, List.length_set, mkG_len] <;> omega) | fail) only [push_cast, if_pos, decide_eq_true, decide_eq_false, Nat.reduceAdd, Nat.reduceSub, Nat.reduceMul, Nat.reduceBEq, Nat.reduceEqDiff, Nat.reduceLT, Nat.reduceLeDiff, Int.reduceToNat, Int.reduceLE, Int.reduceLT, Int.reduceAdd, Int.reduceSub, Int.reduceMul, Int.reduceEq, Int.reduceNeg, ↓reduceIte, reduceCtorEq]) <;> (repeat (refine ex_draw (by kernel_rfl) ?_; simp -dsimp (disch := first | omega | (simp only [List.length_cons, List.length_nil, List.length_map, List.length_append, List.length_take, List.length_drop, List.length_replicate, List.length_set, mkG_len] <;> omega) | fail) only [push_cast, if_pos, decide_eq_true, decide_eq_false, Nat.reduceAdd, Nat.reduceSub, Nat.reduceMul, Nat.reduceBEq, Nat.reduceEqDiff, Nat.reduceLT, Nat.reduceLeDiff, Int.reduceToNat, Int.reduceLE, Int.reduceLT, Int.reduceAdd, Int.reduceSub, Int.reduceMul, Int.reduceEq, Int.reduceNeg, ↓reduceIte, reduceCtorEq]))
  refine ex_call (specFormList (descL a w).1 w (by omega)) ?_
  (simp -dsimp (disch := first | omega | (simp only [List.length_cons, List.length_nil, List.length_map, List.length_append, List.length_take, List.length_drop, List.length_replicate, List.length_set, mkG_len] <;> omega) | fail) only [push_cast, if_pos, decide_eq_true, decide_eq_false, Nat.reduceAdd, Nat.reduceSub, Nat.reduceMul, Nat.reduceBEq, Nat.reduceEqDiff, Nat.reduceLT, Nat.reduceLeDiff, Int.reduceToNat, Int.reduceLE, Int.reduceLT, Int.reduceAdd, Int.reduceSub, Int.reduceMul, Int.reduceEq, Int.reduceNeg, ↓reduceIte, reduceCtorEq]) <;> (repeat (refine ex_draw (by kernel_rfl) ?_; simp -dsimp (disch := first | omega | (simp only [List.length_cons, List.length_nil, List.length_map, List.length_append, List.length_take, List.length_drop, List.length_replicate, List.length_set, mkG_len] <;> omega) | fail) only [push_cast, if_pos, decide_eq_true, decide_eq_false, Nat.reduceAdd, Nat.reduceSub, Nat.reduceMul, Nat.reduceBEq, Nat.reduceEqDiff, Nat.reduceLT, Nat.reduceLeDiff, Int.reduceToNat, Int.reduceLE, Int.reduceLT, Int.reduceAdd, Int.reduceSub, Int.reduceMul, Int.reduceEq, Int.reduceNeg, ↓reduceIte, reduceCtorEq]))
  refine ex_call (specPieces a ha) ?_
  (simp -dsimp (disch := first | omega | (simp only [List.length_cons, List.length_nil, List.length_map, List.length_append, List.length_take, List.length_drop, List.length_replicate, List.length_set, mkG_len] <;> omega) | fail) only [push_cast, if_pos, decide_eq_true, decide_eq_false, Nat.reduceAdd, Nat.reduceSub, Nat.reduceMul, Nat.reduceBEq, Nat.reduceEqDiff, Nat.reduceLT, Nat.reduceLeDiff, Int.reduceToNat, Int.reduceLE, Int.reduceLT, Int.reduceAdd, Int.reduceSub, Int.reduceMul, Int.reduceEq, Int.reduceNeg, ↓reduceIte, reduceCtorEq]) <;> (repeat (refine ex_draw (by kernel_rfl) ?_; simp -dsimp (disch := first | omega | (simp only [List.length_cons, List.length_nil, List.length_map, List.length_append, List.length_take, List.length_drop, List.length_replicate, List.length_set, mkG_len] <;> omega) | fail) only [push_cast, if_pos, decide_eq_true, decide_eq_false, Nat.reduceAdd, Nat.reduceSub, Nat.reduceMul, Nat.reduceBEq, Nat.reduceEqDiff, Nat.reduceLT, Nat.reduceLeDiff, Int.reduceToNat, Int.reduceLE, Int.reduceLT, Int.reduceAdd, Int.reduceSub, Int.reduceMul, Int.reduceEq, Int.reduceNeg, ↓reduceIte, reduceCtorEq]))
  refine ex_call (specDescribe b w hb) ?_
  (simp -dsimp (disch := first | omega | (simp only [List.length_cons, List.length_nil, List.length_map, List.length_append, List.length_take, List.length_drop, List.length_replicate, List.length_set, mkG_len] <;> omega) | fail) only [push_cast, if_pos, decide_eq_true, decide_eq_false, Nat.reduceAdd, Nat.reduceSub, Nat.reduceMul, Nat.reduceBEq, Nat.reduceEqDiff, Nat.reduceLT, Nat.reduceLeDiff, Int.reduceToNat, Int.reduceLE, Int.reduceLT, Int.reduceAdd, Int.reduceSub, Int.reduceMul, Int.reduceEq, Int.reduceNeg, ↓reduceIte, reduceCtorEq]) <;> (repeat (refine ex_draw (by kernel_rfl) ?_; simp -dsimp (disch := first | omega | (simp only [List.length_cons, List.length_nil, List.length_map, List.length_append, List.length_take, List.length_drop, List.length_replicate, List.length_set, mkG_len] <;> omega) | fail) only [push_cast, if_pos, decide_eq_true, decide_eq_false, Nat.reduceAdd, Nat.reduceSub, Nat.reduceMul, Nat.reduceBEq, Nat.reduceEqDiff, Nat.reduceLT, Nat.reduceLeDiff, Int.reduceToNat, Int.reduceLE, Int.reduceLT, Int.reduceAdd, Int.reduceSub, Int.reduceMul, Int.reduceEq, Int.reduceNeg, ↓reduceIte, reduceCtorEq]))
  refine ex_call (specFormList (descL b w).1 w (by omega)) ?_
  (simp -dsimp (disch := first | omega | (simp only [List.length_cons, List.length_nil, List.length_map, List.length_append, List.length_take, List.length_drop, List.length_replicate, List.length_set, mkG_len] <;> omega) | fail) only [push_cast, if_pos, decide_eq_true, decide_eq_false, Nat.reduceAdd, Nat.reduceSub, Nat.reduceMul, Nat.reduceBEq, Nat.reduceEqDiff, Nat.reduceLT, Nat.reduceLeDiff, Int.reduceToNat, Int.reduceLE, Int.reduceLT, Int.reduceAdd, Int.reduceSub, Int.reduceMul, Int.reduceEq, Int.reduceNeg, ↓reduceIte, reduceCtorEq]) <;> (repeat (refine ex_draw (by kernel_rfl) ?_; simp -dsimp (disch := first | omega | (simp only [List.length_cons, List.length_nil, List.length_map, List.length_append, List.length_take, List.length_drop, List.length_replicate, List.length_set, mkG_len] <;> omega) | fail) only [push_cast, if_pos, decide_eq_true, decide_eq_false, Nat.reduceAdd, Nat.reduceSub, Nat.reduceMul, Nat.reduceBEq, Nat.reduceEqDiff, Nat.reduceLT, Nat.reduceLeDiff, Int.reduceToNat, Int.reduceLE, Int.reduceLT, Int.reduceAdd, Int.reduceSub, Int.reduceMul, Int.reduceEq, Int.reduceNeg, ↓reduceIte, reduceCtorEq]))
  refine ex_call (specPieces b hb) ?_
  (simp -dsimp (disch := first | omega | (simp only [List.length_cons, List.length_nil, List.length_map, List.length_append, List.length_take, List.length_drop, List.length_replicate, List.length_set, mkG_len] <;> omega) | fail) only [push_cast, if_pos, decide_eq_true, decide_eq_false, Nat.reduceAdd, Nat.reduceSub, Nat.reduceMul, Nat.reduceBEq, Nat.reduceEqDiff, Nat.reduceLT, Nat.reduceLeDiff, Int.reduceToNat, Int.reduceLE, Int.reduceLT, Int.reduceAdd, Int.reduceSub, Int.reduceMul, Int.reduceEq, Int.reduceNeg, ↓reduceIte, reduceCtorEq]) <;> (repeat (refine ex_draw (by kernel_rfl) ?_; simp -dsimp (disch := first | omega | (simp only [List.length_cons, List.length_nil, List.length_map, List.length_append, List.length_take, List.length_drop, List.length_replicate, List.length_set, mkG_len] <;> omega) | fail) only [push_cast, if_pos, decide_eq_true, decide_eq_false, Nat.reduceAdd, Nat.reduceSub, Nat.reduceMul, Nat.reduceBEq, Nat.reduceEqDiff, Nat.reduceLT, Nat.reduceLeDiff, Int.reduceToNat, Int.reduceLE, Int.reduceLT, Int.reduceAdd, Int.reduceSub, Int.reduceMul, Int.reduceEq, Int.reduceNeg, ↓reduceIte, reduceCtorEq]))
  rw [hrow, rd_String]
  refine ex_some (specClash L w (by omega) hz) ?_
  rintro _ ⟨x, y, v, rfl, h1, h2⟩
  cases v with
  | true =>
    have h1 := h1 rfl
    (simp -dsimp (disch := first | omega | (simp only [h1, List.length_cons, List.length_nil, List.length_map, List.length_append, List.length_take, List.length_drop, List.length_replicate, List.length_set, mkG_len] <;> omega) | fail) only [push_cast, if_pos, decide_eq_true, decide_eq_false, h1, Nat.reduceAdd, Nat.reduceSub, Nat.reduceMul, Nat.reduceBEq, Nat.reduceEqDiff, Nat.reduceLT, Nat.reduceLeDiff, Int.reduceToNat, Int.reduceLE, Int.reduceLT, Int.reduceAdd, Int.reduceSub, Int.reduceMul, Int.reduceEq, Int.reduceNeg, ↓reduceIte, reduceCtorEq]) <;> (repeat (refine ex_draw (by kernel_rfl) ?_; simp -dsimp (disch := first | omega | (simp only [h1, List.length_cons, List.length_nil, List.length_map, List.length_append, List.length_take, List.length_drop, List.length_replicate, List.length_set, mkG_len] <;> omega) | fail) only [push_cast, if_pos, decide_eq_true, decide_eq_false, h1, Nat.reduceAdd, Nat.reduceSub, Nat.reduceMul, Nat.reduceBEq, Nat.reduceEqDiff, Nat.reduceLT, Nat.reduceLeDiff, Int.reduceToNat, Int.reduceLE, Int.reduceLT, Int.reduceAdd, Int.reduceSub, Int.reduceMul, Int.reduceEq, Int.reduceNeg, ↓reduceIte, reduceCtorEq]))
    exact ⟨_, ⟨true, rfl, fun h => by cases h⟩, rfl⟩
  | false =>
    have h2 := h2 rfl (by omega)
    (simp -dsimp (disch := first | omega | (simp only [List.length_cons, List.length_nil, List.length_map, List.length_append, List.length_take, List.length_drop, List.length_replicate, List.length_set, mkG_len] <;> omega) | fail) only [push_cast, if_pos, decide_eq_true, decide_eq_false, Nat.reduceAdd, Nat.reduceSub, Nat.reduceMul, Nat.reduceBEq, Nat.reduceEqDiff, Nat.reduceLT, Nat.reduceLeDiff, Int.reduceToNat, Int.reduceLE, Int.reduceLT, Int.reduceAdd, Int.reduceSub, Int.reduceMul, Int.reduceEq, Int.reduceNeg, ↓reduceIte, reduceCtorEq]) <;> (repeat (refine ex_draw (by kernel_rfl) ?_; simp -dsimp (disch := first | omega | (simp only [List.length_cons, List.length_nil, List.length_map, List.length_append, List.length_take, List.length_drop, List.length_replicate, List.length_set, mkG_len] <;> omega) | fail) only [push_cast, if_pos, decide_eq_true, decide_eq_false, Nat.reduceAdd, Nat.reduceSub, Nat.reduceMul, Nat.reduceBEq, Nat.reduceEqDiff, Nat.reduceLT, Nat.reduceLeDiff, Int.reduceToNat, Int.reduceLE, Int.reduceLT, Int.reduceAdd, Int.reduceSub, Int.reduceMul, Int.reduceEq, Int.reduceNeg, ↓reduceIte, reduceCtorEq]))
    exact ⟨_, ⟨false, rfl, fun _ => h2⟩, rfl⟩
end Go.Proofs.YtkpgdbicefahjaaDoor.Mx

/- Draws, pure. -/
namespace Go.Proofs.YtkpgdbicefahjaaDoor.Mx
set_option linter.all false
open Go Go.RowKit
/-- the bytes of a code -/
def okCode (c : List Int) : Prop := c.length ≤ 2000 ∧ ∀ x ∈ c, 0 ≤ x ∧ x ≤ 255
def mixK (c : List Int) (k : Int) : Int := c.getD (k.toNat % c.length) 0 * 131 + c.getD ((k.toNat * 7 + 3) % c.length) 0 * 1117 + k * 29 + k / c.length * 53
def xorK (x : Int) : Int := wr .i64 (BitVec.ofInt 64 x ^^^ BitVec.ofInt 64 (x / 64)).toNat
/-- the p-th draw of a number below n -/
def pickF (c : List Int) (p n : Int) : Int := if n < 1 ∨ c = [] then 0 else if p < c.length then (c.getD p.toNat 0) % n else xorK (mixK c p) % n
theorem code_get {c : List Int} (h : okCode c) (i : Nat) : 0 ≤ c.getD i 0 ∧ c.getD i 0 ≤ 255 := by
  rw [List.getD_eq_getElem?_getD]
  cases e : c[i]? with
  | none => simp
  | some x => exact h.2 x (List.mem_of_getElem? e)
theorem xorK_nn {x : Int} (h0 : 0 ≤ x) (h1 : x < 4611686018427387904) : 0 ≤ xorK x ∧ xorK x < 4611686018427387904 := by
  unfold xorK
  obtain ⟨n, rfl⟩ := Int.eq_ofNat_of_zero_le h0
  have e : (BitVec.ofInt 64 (n : Int) ^^^ BitVec.ofInt 64 ((n : Int) / 64)).toNat = n ^^^ (n / 64) := by
    rw [BitVec.toNat_xor]
    have h2 : ((n : Int) / 64) = ((n / 64 : Nat) : Int) := by simp
    rw [h2, BitVec.ofInt_natCast, BitVec.ofInt_natCast, BitVec.toNat_ofNat, BitVec.toNat_ofNat, Nat.mod_eq_of_lt (by omega), Nat.mod_eq_of_lt (by omega)]
  rw [e]
  have hl : n ^^^ (n / 64) < 2 ^ 62 := Nat.xor_lt_two_pow (by omega) (by omega)
  have : wr .i64 ((n ^^^ (n / 64) : Nat) : Int) = ((n ^^^ (n / 64) : Nat) : Int) := by
    rw [wr_id (by omega) (by omega)]
  omega
theorem pickF_nn {c : List Int} (h : okCode c) (p n : Int) (hp0 : 0 ≤ p) (hp : p ≤ 1000000) : 0 ≤ pickF c p n ∧ (1 ≤ n → pickF c p n < n) := by
  unfold pickF
  split
  · exact ⟨by omega, by omega⟩
  rename_i h1
  have hn : 1 ≤ n := by omega
  have : ∀ x : Int, 0 ≤ x % n ∧ x % n < n := fun x => ⟨Int.emod_nonneg _ (by omega), Int.emod_lt_of_pos _ (by omega)⟩
  split
  · exact ⟨(this _).1, fun _ => (this _).2⟩
  · exact ⟨(this _).1, fun _ => (this _).2⟩
end Go.Proofs.YtkpgdbicefahjaaDoor.Mx

/- The draws of the reference. -/
namespace Go.Proofs.YtkpgdbicefahjaaDoor.Mx
set_option linter.all false
open Go Go.RowKit Go.Proofs
set_option linter.unusedSimpArgs false
@[push_cast] theorem rd_num (l : List Int) : rdR (l.map numR) = l.map numR := by simp [rdR, numR, rdC]
/-- a reader: code and place -/
@[push_cast] def rdC1 (c : List Int) (p : Int) : Row := [.sl false 1 (c.map numR), .sc (.int .i64 p)]
def E35 : Env := { T := T0, kp := look [(0, [0]), (1, [0]), (2, [0]), (3, [0])] }
attribute [local push_cast] E35
theorem l1Open (c : List Int) (hc : c.length ≤ 1048576) : Does Tryd.prog 35 [.sl false 1 (c.map numR)] (.pb true (rdC1 (c.take 2000) 0), []) := by
  refine does_of (E := E35) (rs := [.tmp 2]) (lent := []) tOk rfl Tryd.func35 rfl (by decide) rfl rfl (Nat.le_of_ble_eq_true rfl) (Nat.le_of_ble_eq_true rfl) ?_
  by_cases h : 2000 < c.length
  · have hne : (c.map numR).isEmpty = false := by cases c <;> simp at h ⊢
    (simp -dsimp (disch := first | omega | (simp only [h, hne, seg, List.drop_zero, ← List.map_take, List.length_cons, List.length_nil, List.length_map, List.length_append, List.length_take, List.length_drop, List.length_replicate, List.length_set, mkG_len] <;> omega) | fail) only [push_cast, if_pos, decide_eq_true, decide_eq_false, h, hne, seg, List.drop_zero, ← List.map_take, Nat.reduceAdd, Nat.reduceSub, Nat.reduceMul, Nat.reduceBEq, Nat.reduceEqDiff, Nat.reduceLT, Nat.reduceLeDiff, Int.reduceToNat, Int.reduceLE, Int.reduceLT, Int.reduceAdd, Int.reduceSub, Int.reduceMul, Int.reduceEq, Int.reduceNeg, ↓reduceIte, reduceCtorEq]) <;> (repeat (refine (aw_draw (by kernel_rfl)).2 ?_; simp -dsimp (disch := first | omega | (simp only [h, hne, seg, List.drop_zero, ← List.map_take, List.length_cons, List.length_nil, List.length_map, List.length_append, List.length_take, List.length_drop, List.length_replicate, List.length_set, mkG_len] <;> omega) | fail) only [push_cast, if_pos, decide_eq_true, decide_eq_false, h, hne, seg, List.drop_zero, ← List.map_take, Nat.reduceAdd, Nat.reduceSub, Nat.reduceMul, Nat.reduceBEq, Nat.reduceEqDiff, Nat.reduceLT, Nat.reduceLeDiff, Int.reduceToNat, Int.reduceLE, Int.reduceLT, Int.reduceAdd, Int.reduceSub, Int.reduceMul, Int.reduceEq, Int.reduceNeg, ↓reduceIte, reduceCtorEq]))
  · rw [List.take_of_length_le (by omega)]
    (simp -dsimp (disch := first | omega | (simp only [h, List.length_cons, List.length_nil, List.length_map, List.length_append, List.length_take, List.length_drop, List.length_replicate, List.length_set, mkG_len] <;> omega) | fail) only [push_cast, if_pos, decide_eq_true, decide_eq_false, h, Nat.reduceAdd, Nat.reduceSub, Nat.reduceMul, Nat.reduceBEq, Nat.reduceEqDiff, Nat.reduceLT, Nat.reduceLeDiff, Int.reduceToNat, Int.reduceLE, Int.reduceLT, Int.reduceAdd, Int.reduceSub, Int.reduceMul, Int.reduceEq, Int.reduceNeg, ↓reduceIte, reduceCtorEq]) <;> (repeat (refine (aw_draw (by kernel_rfl)).2 ?_; simp -dsimp (disch := first | omega | (simp only [h, List.length_cons, List.length_nil, List.length_map, List.length_append, List.length_take, List.length_drop, List.length_replicate, List.length_set, mkG_len] <;> omega) | fail) only [push_cast, if_pos, decide_eq_true, decide_eq_false, h, Nat.reduceAdd, Nat.reduceSub, Nat.reduceMul, Nat.reduceBEq, Nat.reduceEqDiff, Nat.reduceLT, Nat.reduceLeDiff, Int.reduceToNat, Int.reduceLE, Int.reduceLT, Int.reduceAdd, Int.reduceSub, Int.reduceMul, Int.reduceEq, Int.reduceNeg, ↓reduceIte, reduceCtorEq]))
def E60 : Env := { T := T0, kp := look [(0, [0, 1]), (1, [0, 1]), (2, [0, 1]), (3, [0]), (4, [0, 1]), (5, [0, 1, 5]), (6, [0, 1, 5]), (7, [0, 1, 5]), (8, [0, 1, 6]), (9, [0, 1, 6])], dp := look2 [(7, [[], [0], [0, 1], [0, 1, 2], [], [], [5], [5, 6], [5, 6, 7], [5, 6, 7, 8], [4, 5, 6, 7, 8, 9], [0, 1, 2, 3, 4, 5, 6, 7, 8, 9, 10], [0, 1, 2, 3, 4, 5, 6, 7, 8, 9, 10, 11], [0, 1, 2, 3, 4, 5, 6, 7, 8, 9, 10, 11, 12], [0, 1, 2, 3, 4, 5, 6, 7, 8, 9, 10, 11, 12, 13], [], [15], [15, 16], [15, 16, 17], [], [19], [19, 20], [], [22], [22, 23], [22, 23, 24], [22, 23, 24, 25], [19, 20, 21, 22, 23, 24, 25, 26], [15, 16, 17, 18, 19, 20, 21, 22, 23, 24, 25, 26, 27], [15, 16, 17, 18, 19, 20, 21, 22, 23, 24, 25, 26, 27, 28], [15, 16, 17, 18, 19, 20, 21, 22, 23, 24, 25, 26, 27, 28, 29], [15, 16, 17, 18, 19, 20, 21, 22, 23, 24, 25, 26, 27, 28, 29, 30], [0, 1, 2, 3, 4, 5, 6, 7, 8, 9, 10, 11, 12, 13, 14, 15, 16, 17, 18, 19, 20, 21, 22, 23, 24, 25, 26, 27, 28, 29, 30, 31], [], [33], [0, 1, 2, 3, 4, 5, 6, 7, 8, 9, 10, 11, 12, 13, 14, 15, 16, 17, 18, 19, 20, 21, 22, 23, 24, 25, 26, 27, 28, 29, 30, 31, 32, 33, 34], [], [], [37], [37, 38], [37, 38, 39], [37, 38, 39, 40], [36, 37, 38, 39, 40, 41], [36, 37, 38, 39, 40, 41, 42], [0, 1, 2, 3, 4, 5, 6, 7, 8, 9, 10, 11, 12, 13, 14, 15, 16, 17, 18, 19, 20, 21, 22, 23, 24, 25, 26, 27, 28, 29, 30, 31, 32, 33, 34, 35, 36, 37, 38, 39, 40, 41, 42, 43], [0, 1, 2, 3, 4, 5, 6, 7, 8, 9, 10, 11, 12, 13, 14, 15, 16, 17, 18, 19, 20, 21, 22, 23, 24, 25, 26, 27, 28, 29, 30, 31, 32, 33, 34, 35, 36, 37, 38, 39, 40, 41, 42, 43, 44]])] }
attribute [local push_cast] E60
set_option maxRecDepth 20000 in
set_option maxHeartbeats 4000000 in
theorem pick (c : List Int) (p n : Int) (hc : okCode c) (hp : 0 ≤ p) (hp2 : p ≤ 1000000) (hn : n ≤ 1000000) : Does Tryd.prog 60 [.pb true (rdC1 c p), .sc (.int .i64 n)] (.sc (.int .i64 (pickF c p n)), [some (.pb true (rdC1 c (p + 1)))]) := by
  refine does_of (E := E60) (rs := [.tmp 4]) (lent := [true]) tOk rfl Tryd.func60 rfl (by decide) rfl rfl (Nat.le_of_ble_eq_true rfl) (Nat.le_of_ble_eq_true rfl) ?_
  obtain ⟨M, hM⟩ : ∃ M, M = pickF c p n := ⟨_, rfl⟩
  rw [← hM]
  unfold pickF at hM
  by_cases h1 : n < 1
  · rw [if_pos (.inl h1)] at hM
    subst hM
    (simp -dsimp (disch := first | omega | (simp only [h1, wr_id, List.length_cons, List.length_nil, List.length_map, List.length_append, List.length_take, List.length_drop, List.length_replicate, List.length_set, mkG_len] <;> omega) | fail) only [push_cast, if_pos, decide_eq_true, decide_eq_false, h1, wr_id, Nat.reduceAdd, Nat.reduceSub, Nat.reduceMul, Nat.reduceBEq, Nat.reduceEqDiff, Nat.reduceLT, Nat.reduceLeDiff, Int.reduceToNat, Int.reduceLE, Int.reduceLT, Int.reduceAdd, Int.reduceSub, Int.reduceMul, Int.reduceEq, Int.reduceNeg, ↓reduceIte, reduceCtorEq]) <;> (repeat (refine (aw_draw (by kernel_rfl)).2 ?_; simp -dsimp (disch := first | omega | (simp only [h1, wr_id, List.length_cons, List.length_nil, List.length_map, List.length_append, List.length_take, List.length_drop, List.length_replicate, List.length_set, mkG_len] <;> omega) | fail) only [push_cast, if_pos, decide_eq_true, decide_eq_false, h1, wr_id, Nat.reduceAdd, Nat.reduceSub, Nat.reduceMul, Nat.reduceBEq, Nat.reduceEqDiff, Nat.reduceLT, Nat.reduceLeDiff, Int.reduceToNat, Int.reduceLE, Int.reduceLT, Int.reduceAdd, Int.reduceSub, Int.reduceMul, Int.reduceEq, Int.reduceNeg, ↓reduceIte, reduceCtorEq]))
  by_cases h2 : c.length = 0
  · rw [if_pos (.inr (List.length_eq_zero_iff.1 h2))] at hM
    subst hM
    (simp -dsimp (disch := first | omega | (simp only [h1, h2, wr_id, List.length_cons, List.length_nil, List.length_map, List.length_append, List.length_take, List.length_drop, List.length_replicate, List.length_set, mkG_len] <;> omega) | fail) only [push_cast, if_pos, decide_eq_true, decide_eq_false, h1, h2, wr_id, Nat.reduceAdd, Nat.reduceSub, Nat.reduceMul, Nat.reduceBEq, Nat.reduceEqDiff, Nat.reduceLT, Nat.reduceLeDiff, Int.reduceToNat, Int.reduceLE, Int.reduceLT, Int.reduceAdd, Int.reduceSub, Int.reduceMul, Int.reduceEq, Int.reduceNeg, ↓reduceIte, reduceCtorEq]) <;> (repeat (refine (aw_draw (by kernel_rfl)).2 ?_; simp -dsimp (disch := first | omega | (simp only [h1, h2, wr_id, List.length_cons, List.length_nil, List.length_map, List.length_append, List.length_take, List.length_drop, List.length_replicate, List.length_set, mkG_len] <;> omega) | fail) only [push_cast, if_pos, decide_eq_true, decide_eq_false, h1, h2, wr_id, Nat.reduceAdd, Nat.reduceSub, Nat.reduceMul, Nat.reduceBEq, Nat.reduceEqDiff, Nat.reduceLT, Nat.reduceLeDiff, Int.reduceToNat, Int.reduceLE, Int.reduceLT, Int.reduceAdd, Int.reduceSub, Int.reduceMul, Int.reduceEq, Int.reduceNeg, ↓reduceIte, reduceCtorEq]))
  rw [if_neg (by rintro (h | h); exact h1 h; rw [h] at h2; exact h2 rfl)] at hM
  have hl := hc.1
  have hk : p + 1 - 1 = p := by omega
  have hlp : 0 < (c.length : Int) := by omega
  have nn : ∀ i, 0 ≤ c.getD i 0 ∧ c.getD i 0 ≤ 255 := code_get hc
  by_cases h3 : p < c.length
  · rw [if_pos h3] at hM
    obtain ⟨x, hx⟩ := ex_get (show p.toNat < c.length by omega)
    have hb := nn p.toNat
    rw [List.getD_eq_getElem?_getD, hx, Option.getD_some] at hM hb
    have ht : x.tmod n = x % n := Int.tmod_eq_emod_of_nonneg hb.1
    have hnx : numR x = [.sc (.int .u8 x)] := rfl
    (simp -dsimp (disch := first | omega | (simp only [h1, h2, h3, hx, wr_id, hk, ht, hnx, List.length_cons, List.length_nil, List.length_map, List.length_append, List.length_take, List.length_drop, List.length_replicate, List.length_set, mkG_len] <;> omega) | fail) only [push_cast, if_pos, decide_eq_true, decide_eq_false, h1, h2, h3, hx, wr_id, hk, ht, hnx, Nat.reduceAdd, Nat.reduceSub, Nat.reduceMul, Nat.reduceBEq, Nat.reduceEqDiff, Nat.reduceLT, Nat.reduceLeDiff, Int.reduceToNat, Int.reduceLE, Int.reduceLT, Int.reduceAdd, Int.reduceSub, Int.reduceMul, Int.reduceEq, Int.reduceNeg, ↓reduceIte, reduceCtorEq]) <;> (repeat (refine (aw_draw (by kernel_rfl)).2 ?_; simp -dsimp (disch := first | omega | (simp only [h1, h2, h3, hx, wr_id, hk, ht, hnx, List.length_cons, List.length_nil, List.length_map, List.length_append, List.length_take, List.length_drop, List.length_replicate, List.length_set, mkG_len] <;> omega) | fail) only [push_cast, if_pos, decide_eq_true, decide_eq_false, h1, h2, h3, hx, wr_id, hk, ht, hnx, Nat.reduceAdd, Nat.reduceSub, Nat.reduceMul, Nat.reduceBEq, Nat.reduceEqDiff, Nat.reduceLT, Nat.reduceLeDiff, Int.reduceToNat, Int.reduceLE, Int.reduceLT, Int.reduceAdd, Int.reduceSub, Int.reduceMul, Int.reduceEq, Int.reduceNeg, ↓reduceIte, reduceCtorEq]))
    rw [hM]
  rw [if_neg h3] at hM
  have e1 : p.tmod (c.length : Int) = ((p.toNat % c.length : Nat) : Int) := by
    rw [Int.tmod_eq_emod_of_nonneg hp]
    have hp' : p = ((p.toNat : Nat) : Int) := by omega
    conv => lhs; rw [hp']
    rfl
  have e2 : (p * 7 + 3).tmod (c.length : Int) = (((p.toNat * 7 + 3) % c.length : Nat) : Int) := by
    rw [Int.tmod_eq_emod_of_nonneg (by omega), show p * 7 + 3 = ((p.toNat * 7 + 3 : Nat) : Int) by omega]; rfl
  have e3 : p.tdiv (c.length : Int) = p / c.length := Int.tdiv_eq_ediv_of_nonneg hp
  obtain ⟨x, hx⟩ := ex_get (show p.toNat % c.length < c.length from Nat.mod_lt _ (by omega))
  obtain ⟨y, hy⟩ := ex_get (show (p.toNat * 7 + 3) % c.length < c.length from Nat.mod_lt _ (by omega))
  have hbx := nn (p.toNat % c.length)
  have hby := nn ((p.toNat * 7 + 3) % c.length)
  unfold mixK at hM
  rw [List.getD_eq_getElem?_getD, hx, Option.getD_some] at hM hbx
  rw [List.getD_eq_getElem?_getD, hy, Option.getD_some] at hM hby
  have d0 : 0 ≤ p / (c.length : Int) := Int.ediv_nonneg hp (by omega)
  have d1 : p / (c.length : Int) ≤ p := Int.ediv_le_self _ hp
  generalize p / (c.length : Int) = d at *
  generalize p.toNat % c.length = i at *
  generalize (p.toNat * 7 + 3) % c.length = j at *
  obtain ⟨X, hX⟩ : ∃ X, X = x * 131 + y * 1117 + p * 29 + d * 53 := ⟨_, rfl⟩
  have X0 : 0 ≤ X := by omega
  have X1 : X < 4611686018427387904 := by omega
  have hq : X.tdiv 64 = X / 64 := Int.tdiv_eq_ediv_of_nonneg X0
  have hxo : wr .i64 (BitVec.ofInt IntKind.i64.bits X ^^^ BitVec.ofInt IntKind.i64.bits (X / 64)).toNat = xorK X := rfl
  obtain ⟨z0, z1⟩ := xorK_nn X0 X1
  have ht : (xorK X).tmod n = xorK X % n := Int.tmod_eq_emod_of_nonneg z0
  rw [← hX] at hM
  have hnx : numR x = [.sc (.int .u8 x)] := rfl
  have hny : numR y = [.sc (.int .u8 y)] := rfl
  (simp -dsimp (disch := first | omega | (simp only [h1, h2, h3, wr_id, hk, hnx, hny, e1, e2, e3, hx, hy, Int.toNat_natCast, ← hX, hq, hxo, ht, List.length_cons, List.length_nil, List.length_map, List.length_append, List.length_take, List.length_drop, List.length_replicate, List.length_set, mkG_len] <;> omega) | fail) only [push_cast, if_pos, decide_eq_true, decide_eq_false, h1, h2, h3, wr_id, hk, hnx, hny, e1, e2, e3, hx, hy, Int.toNat_natCast, ← hX, hq, hxo, ht, Nat.reduceAdd, Nat.reduceSub, Nat.reduceMul, Nat.reduceBEq, Nat.reduceEqDiff, Nat.reduceLT, Nat.reduceLeDiff, Int.reduceToNat, Int.reduceLE, Int.reduceLT, Int.reduceAdd, Int.reduceSub, Int.reduceMul, Int.reduceEq, Int.reduceNeg, ↓reduceIte, reduceCtorEq]) <;> (repeat (refine (aw_draw (by kernel_rfl)).2 ?_; simp -dsimp (disch := first | omega | (simp only [h1, h2, h3, wr_id, hk, hnx, hny, e1, e2, e3, hx, hy, Int.toNat_natCast, ← hX, hq, hxo, ht, List.length_cons, List.length_nil, List.length_map, List.length_append, List.length_take, List.length_drop, List.length_replicate, List.length_set, mkG_len] <;> omega) | fail) only [push_cast, if_pos, decide_eq_true, decide_eq_false, h1, h2, h3, wr_id, hk, hnx, hny, e1, e2, e3, hx, hy, Int.toNat_natCast, ← hX, hq, hxo, ht, Nat.reduceAdd, Nat.reduceSub, Nat.reduceMul, Nat.reduceBEq, Nat.reduceEqDiff, Nat.reduceLT, Nat.reduceLeDiff, Int.reduceToNat, Int.reduceLE, Int.reduceLT, Int.reduceAdd, Int.reduceSub, Int.reduceMul, Int.reduceEq, Int.reduceNeg, ↓reduceIte, reduceCtorEq]))
  rw [hM]
end Go.Proofs.YtkpgdbicefahjaaDoor.Mx

/- Draws of things. -/
namespace Go.Proofs.YtkpgdbicefahjaaDoor.Mx
set_option linter.all false
open Go Go.RowKit Go.Proofs
set_option linter.unusedSimpArgs false
theorem half_sz (s n : Nat) : n % 2 * s + (s + s) * (n / 2) = s * n := by
  have e : n = 2 * (n / 2) + n % 2 := by omega
  generalize n / 2 = q at *
  generalize n % 2 = r at *
  subst e
  rw [Nat.mul_add, Nat.add_mul, Nat.mul_comm r s, Nat.mul_comm 2 q, ← Nat.mul_assoc, Nat.mul_two]
  omega
theorem half_odd {s n o K : Nat} (h : o + s * n ≤ K) (e : n % 2 = 1) : o + s + (s + s) * (n / 2) ≤ K := by
  have := half_sz s n
  rw [e, Nat.one_mul] at this; omega
theorem half_even {s n o K : Nat} (h : o + s * n ≤ K) (e : ¬ n % 2 = 1) : o + (s + s) * (n / 2) ≤ K := by
  have := half_sz s n
  have e : n % 2 = 0 := by omega
  rw [e, Nat.zero_mul] at this; omega
theorem le_prod {s n o K : Nat} (h : o + s * n ≤ K) (hn : 0 < n) : o + s ≤ K := by
  have := Nat.le_mul_of_pos_right s hn
  omega
theorem tmod2 (n : Nat) : (n : Int).tmod 2 = ((n % 2 : Nat) : Int) := rfl
theorem tdiv2 (n : Nat) : (n : Int).tdiv 2 = ((n / 2 : Nat) : Int) := rfl
def manR (K : Nat) (r : Ans) : Prop := ∃ t : Str, r = (.sc (.string t), []) ∧ t.size ≤ K
def E61 : Env := { T := T0, kp := look [(0, [0, 1]), (1, [0, 1]), (2, [0, 1, 5]), (3, [0, 1, 5]), (4, [0, 1, 5]), (5, [0, 1, 5]), (6, [0, 1, 5]), (7, [5])] }
attribute [local push_cast] E61
set_option maxHeartbeats 1000000 in
theorem l1Many (s : Str) (n K : Nat) (hn : n ≤ 1000000) (hK : s.size * n ≤ K) (hK2 : K ≤ 1000000) (hs : s.size ≤ 2000000) : ∃ r, manR K r ∧ Does Tryd.prog 61 [.sc (.string s), .sc (.int .i64 n)] r := by
  refine does_ex (E := E61) (rs := [.tmp 4]) (lent := []) tOk rfl Tryd.func61 rfl (by decide) rfl rfl (Nat.le_of_ble_eq_true rfl) (Nat.le_of_ble_eq_true rfl) ?_
  (simp -dsimp (disch := first | omega | (simp only [List.length_cons, List.length_nil, List.length_map, List.length_append, List.length_take, List.length_drop, List.length_replicate, List.length_set, mkG_len] <;> omega) | fail) only [push_cast, if_pos, decide_eq_true, decide_eq_false, Nat.reduceAdd, Nat.reduceSub, Nat.reduceMul, Nat.reduceBEq, Nat.reduceEqDiff, Nat.reduceLT, Nat.reduceLeDiff, Int.reduceToNat, Int.reduceLE, Int.reduceLT, Int.reduceAdd, Int.reduceSub, Int.reduceMul, Int.reduceEq, Int.reduceNeg, ↓reduceIte, reduceCtorEq]) <;> (repeat (refine ex_draw (by kernel_rfl) ?_; simp -dsimp (disch := first | omega | (simp only [List.length_cons, List.length_nil, List.length_map, List.length_append, List.length_take, List.length_drop, List.length_replicate, List.length_set, mkG_len] <;> omega) | fail) only [push_cast, if_pos, decide_eq_true, decide_eq_false, Nat.reduceAdd, Nat.reduceSub, Nat.reduceMul, Nat.reduceBEq, Nat.reduceEqDiff, Nat.reduceLT, Nat.reduceLeDiff, Int.reduceToNat, Int.reduceLE, Int.reduceLT, Int.reduceAdd, Int.reduceSub, Int.reduceMul, Int.reduceEq, Int.reduceNeg, ↓reduceIte, reduceCtorEq]))
  refine ex_loop (α := Str × Nat × Str) (fun q => q.2.2.size + q.1.size * q.2.1 ≤ K ∧ q.1.size ≤ 2000000 ∧ q.2.1 ≤ 1000000)
    (fun q => ⟨[(0, .sc (.string q.1)), (1, .sc (.int .i64 q.2.1)), (5, .sc (.string q.2.2))], [], 1⟩)
    (fun q => q.2.1) (s, n, ⟨#[]⟩) ⟨by show 0 + s.size * n ≤ K; omega, hs, hn⟩ ?_ ?_
  · simp -dsimp (disch := first | omega | (simp only [List.length_cons, List.length_nil, List.length_map, List.length_append, List.length_take, List.length_drop, List.length_replicate, List.length_set, mkG_len] <;> omega) | fail) only [push_cast, if_pos, decide_eq_true, decide_eq_false, Nat.reduceAdd, Nat.reduceSub, Nat.reduceMul, Nat.reduceBEq, Nat.reduceEqDiff, Nat.reduceLT, Nat.reduceLeDiff, Int.reduceToNat, Int.reduceLE, Int.reduceLT, Int.reduceAdd, Int.reduceSub, Int.reduceMul, Int.reduceEq, Int.reduceNeg, ↓reduceIte, reduceCtorEq]
  rintro ⟨s, n, o⟩ ⟨g1, g2, g3⟩ ih
  replace g1 : o.size + s.size * n ≤ K := g1
  replace g2 : s.size ≤ 2000000 := g2
  replace g3 : n ≤ 1000000 := g3
  have m2 := tmod2 n
  have d2 := tdiv2 n
  by_cases h : 0 < n
  · have hle := le_prod g1 h
    by_cases e : n % 2 = 1
    · have i1 := half_odd g1 e
      rw [e] at m2
      have hsz : (s ++ s).size = s.size + s.size := ByteArray.size_append
      have hsz2 : (o ++ s).size = o.size + s.size := ByteArray.size_append
      (simp -dsimp (disch := first | omega | (simp only [h, m2, d2, List.length_cons, List.length_nil, List.length_map, List.length_append, List.length_take, List.length_drop, List.length_replicate, List.length_set, mkG_len] <;> omega) | fail) only [push_cast, if_pos, decide_eq_true, decide_eq_false, h, m2, d2, Nat.reduceAdd, Nat.reduceSub, Nat.reduceMul, Nat.reduceBEq, Nat.reduceEqDiff, Nat.reduceLT, Nat.reduceLeDiff, Int.reduceToNat, Int.reduceLE, Int.reduceLT, Int.reduceAdd, Int.reduceSub, Int.reduceMul, Int.reduceEq, Int.reduceNeg, ↓reduceIte, reduceCtorEq]) <;> (repeat (refine ex_draw (by kernel_rfl) ?_; simp -dsimp (disch := first | omega | (simp only [h, m2, d2, List.length_cons, List.length_nil, List.length_map, List.length_append, List.length_take, List.length_drop, List.length_replicate, List.length_set, mkG_len] <;> omega) | fail) only [push_cast, if_pos, decide_eq_true, decide_eq_false, h, m2, d2, Nat.reduceAdd, Nat.reduceSub, Nat.reduceMul, Nat.reduceBEq, Nat.reduceEqDiff, Nat.reduceLT, Nat.reduceLeDiff, Int.reduceToNat, Int.reduceLE, Int.reduceLT, Int.reduceAdd, Int.reduceSub, Int.reduceMul, Int.reduceEq, Int.reduceNeg, ↓reduceIte, reduceCtorEq]))
      refine ih (s ++ s, n / 2, o ++ s) _ (by show n / 2 < n; omega) ⟨by show (o ++ s).size + (s ++ s).size * (n / 2) ≤ K; rw [hsz, hsz2]; exact i1, by show (s ++ s).size ≤ 2000000; omega, by show n / 2 ≤ 1000000; omega⟩ ?_
      simp -dsimp (disch := first | omega | (simp only [wr_id, List.length_cons, List.length_nil, List.length_map, List.length_append, List.length_take, List.length_drop, List.length_replicate, List.length_set, mkG_len] <;> omega) | fail) only [push_cast, if_pos, decide_eq_true, decide_eq_false, wr_id, Nat.reduceAdd, Nat.reduceSub, Nat.reduceMul, Nat.reduceBEq, Nat.reduceEqDiff, Nat.reduceLT, Nat.reduceLeDiff, Int.reduceToNat, Int.reduceLE, Int.reduceLT, Int.reduceAdd, Int.reduceSub, Int.reduceMul, Int.reduceEq, Int.reduceNeg, ↓reduceIte, reduceCtorEq]
    · have i1 := half_even g1 e
      have e : n % 2 = 0 := by omega
      rw [e] at m2
      have hsz : (s ++ s).size = s.size + s.size := ByteArray.size_append
      (simp -dsimp (disch := first | omega | (simp only [h, m2, d2, List.length_cons, List.length_nil, List.length_map, List.length_append, List.length_take, List.length_drop, List.length_replicate, List.length_set, mkG_len] <;> omega) | fail) only [push_cast, if_pos, decide_eq_true, decide_eq_false, h, m2, d2, Nat.reduceAdd, Nat.reduceSub, Nat.reduceMul, Nat.reduceBEq, Nat.reduceEqDiff, Nat.reduceLT, Nat.reduceLeDiff, Int.reduceToNat, Int.reduceLE, Int.reduceLT, Int.reduceAdd, Int.reduceSub, Int.reduceMul, Int.reduceEq, Int.reduceNeg, ↓reduceIte, reduceCtorEq]) <;> (repeat (refine ex_draw (by kernel_rfl) ?_; simp -dsimp (disch := first | omega | (simp only [h, m2, d2, List.length_cons, List.length_nil, List.length_map, List.length_append, List.length_take, List.length_drop, List.length_replicate, List.length_set, mkG_len] <;> omega) | fail) only [push_cast, if_pos, decide_eq_true, decide_eq_false, h, m2, d2, Nat.reduceAdd, Nat.reduceSub, Nat.reduceMul, Nat.reduceBEq, Nat.reduceEqDiff, Nat.reduceLT, Nat.reduceLeDiff, Int.reduceToNat, Int.reduceLE, Int.reduceLT, Int.reduceAdd, Int.reduceSub, Int.reduceMul, Int.reduceEq, Int.reduceNeg, ↓reduceIte, reduceCtorEq]))
      refine ih (s ++ s, n / 2, o) _ (by show n / 2 < n; omega) ⟨by show o.size + (s ++ s).size * (n / 2) ≤ K; rw [hsz]; exact i1, by show (s ++ s).size ≤ 2000000; omega, by show n / 2 ≤ 1000000; omega⟩ ?_
      simp -dsimp (disch := first | omega | (simp only [wr_id, List.length_cons, List.length_nil, List.length_map, List.length_append, List.length_take, List.length_drop, List.length_replicate, List.length_set, mkG_len] <;> omega) | fail) only [push_cast, if_pos, decide_eq_true, decide_eq_false, wr_id, Nat.reduceAdd, Nat.reduceSub, Nat.reduceMul, Nat.reduceBEq, Nat.reduceEqDiff, Nat.reduceLT, Nat.reduceLeDiff, Int.reduceToNat, Int.reduceLE, Int.reduceLT, Int.reduceAdd, Int.reduceSub, Int.reduceMul, Int.reduceEq, Int.reduceNeg, ↓reduceIte, reduceCtorEq]
  · (simp -dsimp (disch := first | omega | (simp only [h, List.length_cons, List.length_nil, List.length_map, List.length_append, List.length_take, List.length_drop, List.length_replicate, List.length_set, mkG_len] <;> omega) | fail) only [push_cast, if_pos, decide_eq_true, decide_eq_false, h, Nat.reduceAdd, Nat.reduceSub, Nat.reduceMul, Nat.reduceBEq, Nat.reduceEqDiff, Nat.reduceLT, Nat.reduceLeDiff, Int.reduceToNat, Int.reduceLE, Int.reduceLT, Int.reduceAdd, Int.reduceSub, Int.reduceMul, Int.reduceEq, Int.reduceNeg, ↓reduceIte, reduceCtorEq]) <;> (repeat (refine ex_draw (by kernel_rfl) ?_; simp -dsimp (disch := first | omega | (simp only [h, List.length_cons, List.length_nil, List.length_map, List.length_append, List.length_take, List.length_drop, List.length_replicate, List.length_set, mkG_len] <;> omega) | fail) only [push_cast, if_pos, decide_eq_true, decide_eq_false, h, Nat.reduceAdd, Nat.reduceSub, Nat.reduceMul, Nat.reduceBEq, Nat.reduceEqDiff, Nat.reduceLT, Nat.reduceLeDiff, Int.reduceToNat, Int.reduceLE, Int.reduceLT, Int.reduceAdd, Int.reduceSub, Int.reduceMul, Int.reduceEq, Int.reduceNeg, ↓reduceIte, reduceCtorEq]))
    exact ⟨_, ⟨o, rfl, by omega⟩, rfl⟩
end Go.Proofs.YtkpgdbicefahjaaDoor.Mx

/- Drawn things. -/
namespace Go.Proofs.YtkpgdbicefahjaaDoor.Mx
set_option linter.all false
open Go Go.RowKit Go.Proofs
set_option linter.unusedSimpArgs false
theorem sz1 (a : UInt8) : (⟨#[a]⟩ : ByteArray).size = 1 := rfl
theorem sz3 (a b c : UInt8) : (⟨#[a, b, c]⟩ : ByteArray).size = 3 := rfl
theorem sz10 (a b c d e f g h i j : UInt8) : (⟨#[a, b, c, d, e, f, g, h, i, j]⟩ : ByteArray).size = 10 := rfl
theorem nat_of' {x : Int} (h : 0 ≤ x) : ∃ n : Nat, x = n := ⟨x.toNat, by omega⟩
def thR (c : List Int) (p : Int) (r : Ans) : Prop := ∃ (t : Str) (p' : Int), r = (.sc (.string t), [some (.pb true (rdC1 c p'))]) ∧ t.size ≤ 10000 ∧ p ≤ p' ∧ p' ≤ p + 10
theorem byte_row {v : Int} (h0 : 0 ≤ v) (h1 : v ≤ 255) : ([.sc (.int .u8 v)] : Row) = byteRow (UInt8.ofNat v.toNat) := by
  unfold byteRow
  rw [UInt8.toNat_ofNat']
  rw [Nat.mod_eq_of_lt (by omega), show ((v.toNat : Nat) : Int) = v by omega]
def E36 : Env := { T := T0, kp := look [(0, [0]), (1, [0]), (2, [0, 8]), (3, [0]), (4, [0, 8]), (5, [0]), (6, [0, 8]), (7, [0]), (8, [0, 8]), (9, [0]), (10, [0]), (11, [0, 3]), (12, [0, 3, 4]), (13, [0, 3, 4, 5]), (14, [0, 3, 4, 5, 6]), (15, [0, 3, 4, 5, 6]), (16, [0, 3, 4, 5, 6]), (17, [0, 3, 4, 5, 6]), (18, [0, 3])], md := look3 [(1, 1, [1, 0]), (5, 1, [1, 0]), (7, 1, [1, 0]), (9, 1, [1, 0]), (11, 1, [1, 0]), (11, 3, [1, 0]), (12, 1, [1, 0]), (12, 4, [1, 0])] }
attribute [local push_cast] E36
set_option maxRecDepth 20000 in
set_option maxHeartbeats 400000 in
theorem l2Thing (c : List Int) (p : Int) (hc : okCode c) (hp : 0 ≤ p) (hp2 : p ≤ 10000) : ∃ r, thR c p r ∧ Does Tryd.prog 36 [.pb true (rdC1 c p)] r := by
  refine does_ex (E := E36) (rs := [.tmp 2]) (lent := [true]) tOk rfl Tryd.func36 rfl (by decide) rfl rfl (Nat.le_of_ble_eq_true rfl) (Nat.le_of_ble_eq_true rfl) ?_
  obtain ⟨z0, z1⟩ := pickF_nn hc p 10 hp (by omega)
  have z1 := z1 (by omega)
  (simp -dsimp (disch := first | omega | (simp only [List.length_cons, List.length_nil, List.length_map, List.length_append, List.length_take, List.length_drop, List.length_replicate, List.length_set, mkG_len] <;> omega) | fail) only [push_cast, if_pos, decide_eq_true, decide_eq_false, Nat.reduceAdd, Nat.reduceSub, Nat.reduceMul, Nat.reduceBEq, Nat.reduceEqDiff, Nat.reduceLT, Nat.reduceLeDiff, Int.reduceToNat, Int.reduceLE, Int.reduceLT, Int.reduceAdd, Int.reduceSub, Int.reduceMul, Int.reduceEq, Int.reduceNeg, ↓reduceIte, reduceCtorEq]) <;> (repeat (refine ex_draw (by kernel_rfl) ?_; simp -dsimp (disch := first | omega | (simp only [List.length_cons, List.length_nil, List.length_map, List.length_append, List.length_take, List.length_drop, List.length_replicate, List.length_set, mkG_len] <;> omega) | fail) only [push_cast, if_pos, decide_eq_true, decide_eq_false, Nat.reduceAdd, Nat.reduceSub, Nat.reduceMul, Nat.reduceBEq, Nat.reduceEqDiff, Nat.reduceLT, Nat.reduceLeDiff, Int.reduceToNat, Int.reduceLE, Int.reduceLT, Int.reduceAdd, Int.reduceSub, Int.reduceMul, Int.reduceEq, Int.reduceNeg, ↓reduceIte, reduceCtorEq]))
  refine ex_call (pick c p 10 hc hp (by omega) (by omega)) ?_
  obtain ⟨N, hN⟩ := nat_of' z0
  rw [hN]
  by_cases n0 : N = 0
  · subst n0
    (simp -dsimp (disch := first | omega | (simp only [List.length_cons, List.length_nil, List.length_map, List.length_append, List.length_take, List.length_drop, List.length_replicate, List.length_set, mkG_len] <;> omega) | fail) only [push_cast, if_pos, decide_eq_true, decide_eq_false, Nat.reduceAdd, Nat.reduceSub, Nat.reduceMul, Nat.reduceBEq, Nat.reduceEqDiff, Nat.reduceLT, Nat.reduceLeDiff, Int.reduceToNat, Int.reduceLE, Int.reduceLT, Int.reduceAdd, Int.reduceSub, Int.reduceMul, Int.reduceEq, Int.reduceNeg, ↓reduceIte, reduceCtorEq]) <;> (repeat (refine ex_draw (by kernel_rfl) ?_; simp -dsimp (disch := first | omega | (simp only [List.length_cons, List.length_nil, List.length_map, List.length_append, List.length_take, List.length_drop, List.length_replicate, List.length_set, mkG_len] <;> omega) | fail) only [push_cast, if_pos, decide_eq_true, decide_eq_false, Nat.reduceAdd, Nat.reduceSub, Nat.reduceMul, Nat.reduceBEq, Nat.reduceEqDiff, Nat.reduceLT, Nat.reduceLeDiff, Int.reduceToNat, Int.reduceLE, Int.reduceLT, Int.reduceAdd, Int.reduceSub, Int.reduceMul, Int.reduceEq, Int.reduceNeg, ↓reduceIte, reduceCtorEq]))
    exact ⟨_, ⟨⟨#[]⟩, p + 1, rfl, Nat.zero_le _, by omega, by omega⟩, rfl⟩
  by_cases n1 : N = 1
  · subst n1
    (simp -dsimp (disch := first | omega | (simp only [List.length_cons, List.length_nil, List.length_map, List.length_append, List.length_take, List.length_drop, List.length_replicate, List.length_set, mkG_len] <;> omega) | fail) only [push_cast, if_pos, decide_eq_true, decide_eq_false, Nat.reduceAdd, Nat.reduceSub, Nat.reduceMul, Nat.reduceBEq, Nat.reduceEqDiff, Nat.reduceLT, Nat.reduceLeDiff, Int.reduceToNat, Int.reduceLE, Int.reduceLT, Int.reduceAdd, Int.reduceSub, Int.reduceMul, Int.reduceEq, Int.reduceNeg, ↓reduceIte, reduceCtorEq]) <;> (repeat (refine ex_draw (by kernel_rfl) ?_; simp -dsimp (disch := first | omega | (simp only [List.length_cons, List.length_nil, List.length_map, List.length_append, List.length_take, List.length_drop, List.length_replicate, List.length_set, mkG_len] <;> omega) | fail) only [push_cast, if_pos, decide_eq_true, decide_eq_false, Nat.reduceAdd, Nat.reduceSub, Nat.reduceMul, Nat.reduceBEq, Nat.reduceEqDiff, Nat.reduceLT, Nat.reduceLeDiff, Int.reduceToNat, Int.reduceLE, Int.reduceLT, Int.reduceAdd, Int.reduceSub, Int.reduceMul, Int.reduceEq, Int.reduceNeg, ↓reduceIte, reduceCtorEq]))
    obtain ⟨y0, y1⟩ := pickF_nn hc (p + 1) 200 (by omega) (by omega)
    have y1 := y1 (by omega)
    refine ex_call (pick c (p + 1) 200 hc (by omega) (by omega) (by omega)) ?_
    obtain ⟨k, hk⟩ := nat_of' y0
    rw [hk]
    (simp -dsimp (disch := first | omega | (simp only [List.length_cons, List.length_nil, List.length_map, List.length_append, List.length_take, List.length_drop, List.length_replicate, List.length_set, mkG_len] <;> omega) | fail) only [push_cast, if_pos, decide_eq_true, decide_eq_false, Nat.reduceAdd, Nat.reduceSub, Nat.reduceMul, Nat.reduceBEq, Nat.reduceEqDiff, Nat.reduceLT, Nat.reduceLeDiff, Int.reduceToNat, Int.reduceLE, Int.reduceLT, Int.reduceAdd, Int.reduceSub, Int.reduceMul, Int.reduceEq, Int.reduceNeg, ↓reduceIte, reduceCtorEq]) <;> (repeat (refine ex_draw (by kernel_rfl) ?_; simp -dsimp (disch := first | omega | (simp only [List.length_cons, List.length_nil, List.length_map, List.length_append, List.length_take, List.length_drop, List.length_replicate, List.length_set, mkG_len] <;> omega) | fail) only [push_cast, if_pos, decide_eq_true, decide_eq_false, Nat.reduceAdd, Nat.reduceSub, Nat.reduceMul, Nat.reduceBEq, Nat.reduceEqDiff, Nat.reduceLT, Nat.reduceLeDiff, Int.reduceToNat, Int.reduceLE, Int.reduceLT, Int.reduceAdd, Int.reduceSub, Int.reduceMul, Int.reduceEq, Int.reduceNeg, ↓reduceIte, reduceCtorEq]))
    refine ex_some (l1Many ⟨#[122]⟩ k 200 (by omega) (by rw [sz1]; omega) (by omega) (by rw [sz1]; omega)) ?_
    rintro _ ⟨t, rfl, ht⟩
    (simp -dsimp (disch := first | omega | (simp only [List.length_cons, List.length_nil, List.length_map, List.length_append, List.length_take, List.length_drop, List.length_replicate, List.length_set, mkG_len] <;> omega) | fail) only [push_cast, if_pos, decide_eq_true, decide_eq_false, Nat.reduceAdd, Nat.reduceSub, Nat.reduceMul, Nat.reduceBEq, Nat.reduceEqDiff, Nat.reduceLT, Nat.reduceLeDiff, Int.reduceToNat, Int.reduceLE, Int.reduceLT, Int.reduceAdd, Int.reduceSub, Int.reduceMul, Int.reduceEq, Int.reduceNeg, ↓reduceIte, reduceCtorEq]) <;> (repeat (refine ex_draw (by kernel_rfl) ?_; simp -dsimp (disch := first | omega | (simp only [List.length_cons, List.length_nil, List.length_map, List.length_append, List.length_take, List.length_drop, List.length_replicate, List.length_set, mkG_len] <;> omega) | fail) only [push_cast, if_pos, decide_eq_true, decide_eq_false, Nat.reduceAdd, Nat.reduceSub, Nat.reduceMul, Nat.reduceBEq, Nat.reduceEqDiff, Nat.reduceLT, Nat.reduceLeDiff, Int.reduceToNat, Int.reduceLE, Int.reduceLT, Int.reduceAdd, Int.reduceSub, Int.reduceMul, Int.reduceEq, Int.reduceNeg, ↓reduceIte, reduceCtorEq]))
    exact ⟨_, ⟨t, p + 1 + 1, rfl, by omega, by omega, by omega⟩, rfl⟩
  by_cases n2 : N = 2
  · subst n2
    (simp -dsimp (disch := first | omega | (simp only [List.length_cons, List.length_nil, List.length_map, List.length_append, List.length_take, List.length_drop, List.length_replicate, List.length_set, mkG_len] <;> omega) | fail) only [push_cast, if_pos, decide_eq_true, decide_eq_false, Nat.reduceAdd, Nat.reduceSub, Nat.reduceMul, Nat.reduceBEq, Nat.reduceEqDiff, Nat.reduceLT, Nat.reduceLeDiff, Int.reduceToNat, Int.reduceLE, Int.reduceLT, Int.reduceAdd, Int.reduceSub, Int.reduceMul, Int.reduceEq, Int.reduceNeg, ↓reduceIte, reduceCtorEq]) <;> (repeat (refine ex_draw (by kernel_rfl) ?_; simp -dsimp (disch := first | omega | (simp only [List.length_cons, List.length_nil, List.length_map, List.length_append, List.length_take, List.length_drop, List.length_replicate, List.length_set, mkG_len] <;> omega) | fail) only [push_cast, if_pos, decide_eq_true, decide_eq_false, Nat.reduceAdd, Nat.reduceSub, Nat.reduceMul, Nat.reduceBEq, Nat.reduceEqDiff, Nat.reduceLT, Nat.reduceLeDiff, Int.reduceToNat, Int.reduceLE, Int.reduceLT, Int.reduceAdd, Int.reduceSub, Int.reduceMul, Int.reduceEq, Int.reduceNeg, ↓reduceIte, reduceCtorEq]))
    obtain ⟨y0, y1⟩ := pickF_nn hc (p + 1) 30 (by omega) (by omega)
    have y1 := y1 (by omega)
    refine ex_call (pick c (p + 1) 30 hc (by omega) (by omega) (by omega)) ?_
    obtain ⟨k, hk⟩ := nat_of' y0
    rw [hk]
    (simp -dsimp (disch := first | omega | (simp only [List.length_cons, List.length_nil, List.length_map, List.length_append, List.length_take, List.length_drop, List.length_replicate, List.length_set, mkG_len] <;> omega) | fail) only [push_cast, if_pos, decide_eq_true, decide_eq_false, Nat.reduceAdd, Nat.reduceSub, Nat.reduceMul, Nat.reduceBEq, Nat.reduceEqDiff, Nat.reduceLT, Nat.reduceLeDiff, Int.reduceToNat, Int.reduceLE, Int.reduceLT, Int.reduceAdd, Int.reduceSub, Int.reduceMul, Int.reduceEq, Int.reduceNeg, ↓reduceIte, reduceCtorEq]) <;> (repeat (refine ex_draw (by kernel_rfl) ?_; simp -dsimp (disch := first | omega | (simp only [List.length_cons, List.length_nil, List.length_map, List.length_append, List.length_take, List.length_drop, List.length_replicate, List.length_set, mkG_len] <;> omega) | fail) only [push_cast, if_pos, decide_eq_true, decide_eq_false, Nat.reduceAdd, Nat.reduceSub, Nat.reduceMul, Nat.reduceBEq, Nat.reduceEqDiff, Nat.reduceLT, Nat.reduceLeDiff, Int.reduceToNat, Int.reduceLE, Int.reduceLT, Int.reduceAdd, Int.reduceSub, Int.reduceMul, Int.reduceEq, Int.reduceNeg, ↓reduceIte, reduceCtorEq]))
    refine ex_some (l1Many ⟨#[97, 98, 99, 100, 101, 102, 103, 104, 105, 106]⟩ k 300 (by omega) (by rw [sz10]; omega) (by omega) (by rw [sz10]; omega)) ?_
    rintro _ ⟨t, rfl, ht⟩
    (simp -dsimp (disch := first | omega | (simp only [List.length_cons, List.length_nil, List.length_map, List.length_append, List.length_take, List.length_drop, List.length_replicate, List.length_set, mkG_len] <;> omega) | fail) only [push_cast, if_pos, decide_eq_true, decide_eq_false, Nat.reduceAdd, Nat.reduceSub, Nat.reduceMul, Nat.reduceBEq, Nat.reduceEqDiff, Nat.reduceLT, Nat.reduceLeDiff, Int.reduceToNat, Int.reduceLE, Int.reduceLT, Int.reduceAdd, Int.reduceSub, Int.reduceMul, Int.reduceEq, Int.reduceNeg, ↓reduceIte, reduceCtorEq]) <;> (repeat (refine ex_draw (by kernel_rfl) ?_; simp -dsimp (disch := first | omega | (simp only [List.length_cons, List.length_nil, List.length_map, List.length_append, List.length_take, List.length_drop, List.length_replicate, List.length_set, mkG_len] <;> omega) | fail) only [push_cast, if_pos, decide_eq_true, decide_eq_false, Nat.reduceAdd, Nat.reduceSub, Nat.reduceMul, Nat.reduceBEq, Nat.reduceEqDiff, Nat.reduceLT, Nat.reduceLeDiff, Int.reduceToNat, Int.reduceLE, Int.reduceLT, Int.reduceAdd, Int.reduceSub, Int.reduceMul, Int.reduceEq, Int.reduceNeg, ↓reduceIte, reduceCtorEq]))
    exact ⟨_, ⟨t, p + 1 + 1, rfl, by omega, by omega, by omega⟩, rfl⟩
  by_cases n3 : N = 3
  · subst n3
    (simp -dsimp (disch := first | omega | (simp only [List.length_cons, List.length_nil, List.length_map, List.length_append, List.length_take, List.length_drop, List.length_replicate, List.length_set, mkG_len] <;> omega) | fail) only [push_cast, if_pos, decide_eq_true, decide_eq_false, Nat.reduceAdd, Nat.reduceSub, Nat.reduceMul, Nat.reduceBEq, Nat.reduceEqDiff, Nat.reduceLT, Nat.reduceLeDiff, Int.reduceToNat, Int.reduceLE, Int.reduceLT, Int.reduceAdd, Int.reduceSub, Int.reduceMul, Int.reduceEq, Int.reduceNeg, ↓reduceIte, reduceCtorEq]) <;> (repeat (refine ex_draw (by kernel_rfl) ?_; simp -dsimp (disch := first | omega | (simp only [List.length_cons, List.length_nil, List.length_map, List.length_append, List.length_take, List.length_drop, List.length_replicate, List.length_set, mkG_len] <;> omega) | fail) only [push_cast, if_pos, decide_eq_true, decide_eq_false, Nat.reduceAdd, Nat.reduceSub, Nat.reduceMul, Nat.reduceBEq, Nat.reduceEqDiff, Nat.reduceLT, Nat.reduceLeDiff, Int.reduceToNat, Int.reduceLE, Int.reduceLT, Int.reduceAdd, Int.reduceSub, Int.reduceMul, Int.reduceEq, Int.reduceNeg, ↓reduceIte, reduceCtorEq]))
    obtain ⟨y0, y1⟩ := pickF_nn hc (p + 1) 2 (by omega) (by omega)
    have y1 := y1 (by omega)
    refine ex_call (pick c (p + 1) 2 hc (by omega) (by omega) (by omega)) ?_
    obtain ⟨k, hk⟩ := nat_of' y0
    rw [hk]
    obtain ⟨m, hm⟩ := nat_of' (show 0 ≤ (3000 : Int) - k by omega)
    (simp -dsimp (disch := first | omega | (simp only [wr_id, hm, List.length_cons, List.length_nil, List.length_map, List.length_append, List.length_take, List.length_drop, List.length_replicate, List.length_set, mkG_len] <;> omega) | fail) only [push_cast, if_pos, decide_eq_true, decide_eq_false, wr_id, hm, Nat.reduceAdd, Nat.reduceSub, Nat.reduceMul, Nat.reduceBEq, Nat.reduceEqDiff, Nat.reduceLT, Nat.reduceLeDiff, Int.reduceToNat, Int.reduceLE, Int.reduceLT, Int.reduceAdd, Int.reduceSub, Int.reduceMul, Int.reduceEq, Int.reduceNeg, ↓reduceIte, reduceCtorEq]) <;> (repeat (refine ex_draw (by kernel_rfl) ?_; simp -dsimp (disch := first | omega | (simp only [wr_id, hm, List.length_cons, List.length_nil, List.length_map, List.length_append, List.length_take, List.length_drop, List.length_replicate, List.length_set, mkG_len] <;> omega) | fail) only [push_cast, if_pos, decide_eq_true, decide_eq_false, wr_id, hm, Nat.reduceAdd, Nat.reduceSub, Nat.reduceMul, Nat.reduceBEq, Nat.reduceEqDiff, Nat.reduceLT, Nat.reduceLeDiff, Int.reduceToNat, Int.reduceLE, Int.reduceLT, Int.reduceAdd, Int.reduceSub, Int.reduceMul, Int.reduceEq, Int.reduceNeg, ↓reduceIte, reduceCtorEq]))
    refine ex_some (l1Many ⟨#[109]⟩ m 3000 (by omega) (by rw [sz1]; omega) (by omega) (by rw [sz1]; omega)) ?_
    rintro _ ⟨t, rfl, ht⟩
    (simp -dsimp (disch := first | omega | (simp only [List.length_cons, List.length_nil, List.length_map, List.length_append, List.length_take, List.length_drop, List.length_replicate, List.length_set, mkG_len] <;> omega) | fail) only [push_cast, if_pos, decide_eq_true, decide_eq_false, Nat.reduceAdd, Nat.reduceSub, Nat.reduceMul, Nat.reduceBEq, Nat.reduceEqDiff, Nat.reduceLT, Nat.reduceLeDiff, Int.reduceToNat, Int.reduceLE, Int.reduceLT, Int.reduceAdd, Int.reduceSub, Int.reduceMul, Int.reduceEq, Int.reduceNeg, ↓reduceIte, reduceCtorEq]) <;> (repeat (refine ex_draw (by kernel_rfl) ?_; simp -dsimp (disch := first | omega | (simp only [List.length_cons, List.length_nil, List.length_map, List.length_append, List.length_take, List.length_drop, List.length_replicate, List.length_set, mkG_len] <;> omega) | fail) only [push_cast, if_pos, decide_eq_true, decide_eq_false, Nat.reduceAdd, Nat.reduceSub, Nat.reduceMul, Nat.reduceBEq, Nat.reduceEqDiff, Nat.reduceLT, Nat.reduceLeDiff, Int.reduceToNat, Int.reduceLE, Int.reduceLT, Int.reduceAdd, Int.reduceSub, Int.reduceMul, Int.reduceEq, Int.reduceNeg, ↓reduceIte, reduceCtorEq]))
    exact ⟨_, ⟨t, p + 1 + 1, rfl, by omega, by omega, by omega⟩, rfl⟩
  (simp -dsimp (disch := first | omega | (simp only [n0, n1, n2, n3, List.length_cons, List.length_nil, List.length_map, List.length_append, List.length_take, List.length_drop, List.length_replicate, List.length_set, mkG_len] <;> omega) | fail) only [push_cast, if_pos, decide_eq_true, decide_eq_false, n0, n1, n2, n3, Nat.reduceAdd, Nat.reduceSub, Nat.reduceMul, Nat.reduceBEq, Nat.reduceEqDiff, Nat.reduceLT, Nat.reduceLeDiff, Int.reduceToNat, Int.reduceLE, Int.reduceLT, Int.reduceAdd, Int.reduceSub, Int.reduceMul, Int.reduceEq, Int.reduceNeg, ↓reduceIte, reduceCtorEq]) <;> (repeat (refine ex_draw (by kernel_rfl) ?_; simp -dsimp (disch := first | omega | (simp only [n0, n1, n2, n3, List.length_cons, List.length_nil, List.length_map, List.length_append, List.length_take, List.length_drop, List.length_replicate, List.length_set, mkG_len] <;> omega) | fail) only [push_cast, if_pos, decide_eq_true, decide_eq_false, n0, n1, n2, n3, Nat.reduceAdd, Nat.reduceSub, Nat.reduceMul, Nat.reduceBEq, Nat.reduceEqDiff, Nat.reduceLT, Nat.reduceLeDiff, Int.reduceToNat, Int.reduceLE, Int.reduceLT, Int.reduceAdd, Int.reduceSub, Int.reduceMul, Int.reduceEq, Int.reduceNeg, ↓reduceIte, reduceCtorEq]))
  obtain ⟨y0, y1⟩ := pickF_nn hc (p + 1) 200 (by omega) (by omega)
  have y1 := y1 (by omega)
  refine ex_call (pick c (p + 1) 200 hc (by omega) (by omega) (by omega)) ?_
  (simp -dsimp (disch := first | omega | (simp only [List.length_cons, List.length_nil, List.length_map, List.length_append, List.length_take, List.length_drop, List.length_replicate, List.length_set, mkG_len] <;> omega) | fail) only [push_cast, if_pos, decide_eq_true, decide_eq_false, Nat.reduceAdd, Nat.reduceSub, Nat.reduceMul, Nat.reduceBEq, Nat.reduceEqDiff, Nat.reduceLT, Nat.reduceLeDiff, Int.reduceToNat, Int.reduceLE, Int.reduceLT, Int.reduceAdd, Int.reduceSub, Int.reduceMul, Int.reduceEq, Int.reduceNeg, ↓reduceIte, reduceCtorEq]) <;> (repeat (refine ex_draw (by kernel_rfl) ?_; simp -dsimp (disch := first | omega | (simp only [List.length_cons, List.length_nil, List.length_map, List.length_append, List.length_take, List.length_drop, List.length_replicate, List.length_set, mkG_len] <;> omega) | fail) only [push_cast, if_pos, decide_eq_true, decide_eq_false, Nat.reduceAdd, Nat.reduceSub, Nat.reduceMul, Nat.reduceBEq, Nat.reduceEqDiff, Nat.reduceLT, Nat.reduceLeDiff, Int.reduceToNat, Int.reduceLE, Int.reduceLT, Int.reduceAdd, Int.reduceSub, Int.reduceMul, Int.reduceEq, Int.reduceNeg, ↓reduceIte, reduceCtorEq]))
  obtain ⟨x0, x1⟩ := pickF_nn hc (p + 1 + 1) 200 (by omega) (by omega)
  have x1 := x1 (by omega)
  refine ex_call (pick c (p + 1 + 1) 200 hc (by omega) (by omega) (by omega)) ?_
  obtain ⟨T, hT⟩ : ∃ T : Nat, pickF c (p + 1) 200 + pickF c (p + 1 + 1) 200 = T := nat_of' (by omega)
  have hT4 : T ≤ 400 := by omega
  (simp -dsimp (disch := first | omega | (simp only [wr_id, hT, List.length_cons, List.length_nil, List.length_map, List.length_append, List.length_take, List.length_drop, List.length_replicate, List.length_set, mkG_len] <;> omega) | fail) only [push_cast, if_pos, decide_eq_true, decide_eq_false, wr_id, hT, Nat.reduceAdd, Nat.reduceSub, Nat.reduceMul, Nat.reduceBEq, Nat.reduceEqDiff, Nat.reduceLT, Nat.reduceLeDiff, Int.reduceToNat, Int.reduceLE, Int.reduceLT, Int.reduceAdd, Int.reduceSub, Int.reduceMul, Int.reduceEq, Int.reduceNeg, ↓reduceIte, reduceCtorEq]) <;> (repeat (refine ex_draw (by kernel_rfl) ?_; simp -dsimp (disch := first | omega | (simp only [wr_id, hT, List.length_cons, List.length_nil, List.length_map, List.length_append, List.length_take, List.length_drop, List.length_replicate, List.length_set, mkG_len] <;> omega) | fail) only [push_cast, if_pos, decide_eq_true, decide_eq_false, wr_id, hT, Nat.reduceAdd, Nat.reduceSub, Nat.reduceMul, Nat.reduceBEq, Nat.reduceEqDiff, Nat.reduceLT, Nat.reduceLeDiff, Int.reduceToNat, Int.reduceLE, Int.reduceLT, Int.reduceAdd, Int.reduceSub, Int.reduceMul, Int.reduceEq, Int.reduceNeg, ↓reduceIte, reduceCtorEq]))
  obtain ⟨v0, v1⟩ := pickF_nn hc (p + 1 + 1 + 1) 256 (by omega) (by omega)
  have v1 := v1 (by omega)
  refine ex_call (pick c (p + 1 + 1 + 1) 256 hc (by omega) (by omega) (by omega)) ?_
  (simp -dsimp (disch := first | omega | (simp only [wr_id, List.length_cons, List.length_nil, List.length_map, List.length_append, List.length_take, List.length_drop, List.length_replicate, List.length_set, mkG_len] <;> omega) | fail) only [push_cast, if_pos, decide_eq_true, decide_eq_false, wr_id, Nat.reduceAdd, Nat.reduceSub, Nat.reduceMul, Nat.reduceBEq, Nat.reduceEqDiff, Nat.reduceLT, Nat.reduceLeDiff, Int.reduceToNat, Int.reduceLE, Int.reduceLT, Int.reduceAdd, Int.reduceSub, Int.reduceMul, Int.reduceEq, Int.reduceNeg, ↓reduceIte, reduceCtorEq]) <;> (repeat (refine ex_draw (by kernel_rfl) ?_; simp -dsimp (disch := first | omega | (simp only [wr_id, List.length_cons, List.length_nil, List.length_map, List.length_append, List.length_take, List.length_drop, List.length_replicate, List.length_set, mkG_len] <;> omega) | fail) only [push_cast, if_pos, decide_eq_true, decide_eq_false, wr_id, Nat.reduceAdd, Nat.reduceSub, Nat.reduceMul, Nat.reduceBEq, Nat.reduceEqDiff, Nat.reduceLT, Nat.reduceLeDiff, Int.reduceToNat, Int.reduceLE, Int.reduceLT, Int.reduceAdd, Int.reduceSub, Int.reduceMul, Int.reduceEq, Int.reduceNeg, ↓reduceIte, reduceCtorEq]))
  obtain ⟨u0, u1⟩ := pickF_nn hc (p + 1 + 1 + 1 + 1) 256 (by omega) (by omega)
  have u1 := u1 (by omega)
  refine ex_call (pick c (p + 1 + 1 + 1 + 1) 256 hc (by omega) (by omega) (by omega)) ?_
  generalize pickF c (p + 1 + 1 + 1) 256 = V at *
  generalize pickF c (p + 1 + 1 + 1 + 1) 256 = U at *
  obtain ⟨X, hX⟩ := nat_of' (show 0 ≤ V * 256 + U + 1 by omega)
  have hX6 : X ≤ 65536 := by omega
  (simp -dsimp (disch := first | omega | (simp only [wr_id, hX, List.length_cons, List.length_nil, List.length_map, List.length_append, List.length_take, List.length_drop, List.length_replicate, List.length_set, mkG_len] <;> omega) | fail) only [push_cast, if_pos, decide_eq_true, decide_eq_false, wr_id, hX, Nat.reduceAdd, Nat.reduceSub, Nat.reduceMul, Nat.reduceBEq, Nat.reduceEqDiff, Nat.reduceLT, Nat.reduceLeDiff, Int.reduceToNat, Int.reduceLE, Int.reduceLT, Int.reduceAdd, Int.reduceSub, Int.reduceMul, Int.reduceEq, Int.reduceNeg, ↓reduceIte, reduceCtorEq]) <;> (repeat (refine ex_draw (by kernel_rfl) ?_; simp -dsimp (disch := first | omega | (simp only [wr_id, hX, List.length_cons, List.length_nil, List.length_map, List.length_append, List.length_take, List.length_drop, List.length_replicate, List.length_set, mkG_len] <;> omega) | fail) only [push_cast, if_pos, decide_eq_true, decide_eq_false, wr_id, hX, Nat.reduceAdd, Nat.reduceSub, Nat.reduceMul, Nat.reduceBEq, Nat.reduceEqDiff, Nat.reduceLT, Nat.reduceLeDiff, Int.reduceToNat, Int.reduceLE, Int.reduceLT, Int.reduceAdd, Int.reduceSub, Int.reduceMul, Int.reduceEq, Int.reduceNeg, ↓reduceIte, reduceCtorEq]))
  refine ex_loop (α := Nat × Nat × List UInt8) (fun q => q.1 ≤ T ∧ q.2.1 ≤ 65536 ∧ q.2.2.length = q.1)
    (fun q => ⟨[(0, .pt 1 0 0), (3, .ow 2 0 q.2.2.length), (4, .sc (.int .i64 T)), (5, .sc (.int .i64 q.2.1)), (6, .sc (.int .i64 q.1))], [(1, .bx (rdC1 c (p + 1 + 1 + 1 + 1 + 1))), (2, .ar 1 0 (q.2.2.map byteRow))], 3⟩)
    (fun q => T - q.1) (0, X, []) ⟨Nat.zero_le _, hX6, rfl⟩ ?_ ?_
  · simp -dsimp (disch := first | omega | (simp only [List.length_cons, List.length_nil, List.length_map, List.length_append, List.length_take, List.length_drop, List.length_replicate, List.length_set, mkG_len] <;> omega) | fail) only [push_cast, if_pos, decide_eq_true, decide_eq_false, Nat.reduceAdd, Nat.reduceSub, Nat.reduceMul, Nat.reduceBEq, Nat.reduceEqDiff, Nat.reduceLT, Nat.reduceLeDiff, Int.reduceToNat, Int.reduceLE, Int.reduceLT, Int.reduceAdd, Int.reduceSub, Int.reduceMul, Int.reduceEq, Int.reduceNeg, ↓reduceIte, reduceCtorEq]
  rintro ⟨i, x, B⟩ ⟨g1, g2, g3⟩ ih
  replace g1 : i ≤ T := g1
  replace g2 : x ≤ 65536 := g2
  replace g3 : B.length = i := g3
  clear hX hT x0 x1 y0 y1 u0 u1 v0 v1 z0 z1 hX6
  by_cases h : i < T
  · have e1 : ((x : Int) * 4005 + 7).tmod 65521 = (((x * 4005 + 7) % 65521 : Nat) : Int) := by
      rw [show (x : Int) * 4005 + 7 = ((x * 4005 + 7 : Nat) : Int) by omega]; rfl
    have hy : (x * 4005 + 7) % 65521 < 65521 := Nat.mod_lt _ (by omega)
    obtain ⟨y, hye⟩ : ∃ y, y = (x * 4005 + 7) % 65521 := ⟨_, rfl⟩
    rw [← hye] at e1 hy
    clear hye
    obtain ⟨q, hq⟩ : ∃ q, q = y / 7 := ⟨_, rfl⟩
    have e5 : (y : Int).tdiv 7 = (q : Int) := by rw [hq]; rfl
    have hq7 : q ≤ 65536 := by omega
    have e2 : (q : Int).tmod 26 = ((q % 26 : Nat) : Int) := rfl
    have hz : q % 26 < 26 := Nat.mod_lt _ (by omega)
    obtain ⟨z, hze⟩ : ∃ z, z = q % 26 := ⟨_, rfl⟩
    rw [← hze] at e2 hz
    clear hze hq
    have e3 := byte_row (v := 97 + (z : Int)) (by omega) (by omega)
    have e4 : wr .u8 (97 + (z : Int)) = 97 + (z : Int) := by rw [wr_u8]; omega
    (simp -dsimp (disch := first | omega | (simp only [h, e1, e2, e4, e5, wr_id, List.length_cons, List.length_nil, List.length_map, List.length_append, List.length_take, List.length_drop, List.length_replicate, List.length_set, mkG_len] <;> omega) | fail) only [push_cast, if_pos, decide_eq_true, decide_eq_false, h, e1, e2, e4, e5, wr_id, Nat.reduceAdd, Nat.reduceSub, Nat.reduceMul, Nat.reduceBEq, Nat.reduceEqDiff, Nat.reduceLT, Nat.reduceLeDiff, Int.reduceToNat, Int.reduceLE, Int.reduceLT, Int.reduceAdd, Int.reduceSub, Int.reduceMul, Int.reduceEq, Int.reduceNeg, ↓reduceIte, reduceCtorEq]) <;> (repeat (refine ex_draw (by kernel_rfl) ?_; simp -dsimp (disch := first | omega | (simp only [h, e1, e2, e4, e5, wr_id, List.length_cons, List.length_nil, List.length_map, List.length_append, List.length_take, List.length_drop, List.length_replicate, List.length_set, mkG_len] <;> omega) | fail) only [push_cast, if_pos, decide_eq_true, decide_eq_false, h, e1, e2, e4, e5, wr_id, Nat.reduceAdd, Nat.reduceSub, Nat.reduceMul, Nat.reduceBEq, Nat.reduceEqDiff, Nat.reduceLT, Nat.reduceLeDiff, Int.reduceToNat, Int.reduceLE, Int.reduceLT, Int.reduceAdd, Int.reduceSub, Int.reduceMul, Int.reduceEq, Int.reduceNeg, ↓reduceIte, reduceCtorEq]))
    refine ih (i + 1, y, B ++ [UInt8.ofNat (97 + (z : Int)).toNat]) _ (by show T - (i + 1) < T - i; omega) ⟨h, by show y ≤ 65536; omega, by show (B ++ _).length = i + 1; rw [List.length_append, g3]; rfl⟩ ?_
    simp -dsimp (disch := first | omega | (simp only [wr_id, List.map_append, List.length_append, List.length_cons, List.length_nil, List.map_cons, List.map_nil, ← e3, List.length_cons, List.length_nil, List.length_map, List.length_append, List.length_take, List.length_drop, List.length_replicate, List.length_set, mkG_len] <;> omega) | fail) only [push_cast, if_pos, decide_eq_true, decide_eq_false, wr_id, List.map_append, List.length_append, List.length_cons, List.length_nil, List.map_cons, List.map_nil, ← e3, Nat.reduceAdd, Nat.reduceSub, Nat.reduceMul, Nat.reduceBEq, Nat.reduceEqDiff, Nat.reduceLT, Nat.reduceLeDiff, Int.reduceToNat, Int.reduceLE, Int.reduceLT, Int.reduceAdd, Int.reduceSub, Int.reduceMul, Int.reduceEq, Int.reduceNeg, ↓reduceIte, reduceCtorEq]
  · have hi : i = T := by omega
    (simp -dsimp (disch := first | omega | (simp only [hi, List.length_cons, List.length_nil, List.length_map, List.length_append, List.length_take, List.length_drop, List.length_replicate, List.length_set, mkG_len] <;> omega) | fail) only [push_cast, if_pos, decide_eq_true, decide_eq_false, hi, Nat.reduceAdd, Nat.reduceSub, Nat.reduceMul, Nat.reduceBEq, Nat.reduceEqDiff, Nat.reduceLT, Nat.reduceLeDiff, Int.reduceToNat, Int.reduceLE, Int.reduceLT, Int.reduceAdd, Int.reduceSub, Int.reduceMul, Int.reduceEq, Int.reduceNeg, ↓reduceIte, reduceCtorEq]) <;> (repeat (refine ex_draw (by kernel_rfl) ?_; simp -dsimp (disch := first | omega | (simp only [hi, List.length_cons, List.length_nil, List.length_map, List.length_append, List.length_take, List.length_drop, List.length_replicate, List.length_set, mkG_len] <;> omega) | fail) only [push_cast, if_pos, decide_eq_true, decide_eq_false, hi, Nat.reduceAdd, Nat.reduceSub, Nat.reduceMul, Nat.reduceBEq, Nat.reduceEqDiff, Nat.reduceLT, Nat.reduceLeDiff, Int.reduceToNat, Int.reduceLE, Int.reduceLT, Int.reduceAdd, Int.reduceSub, Int.reduceMul, Int.reduceEq, Int.reduceNeg, ↓reduceIte, reduceCtorEq]))
    exact ⟨_, ⟨stB B, _, rfl, by rw [stB_size]; omega, by omega, by omega⟩, rfl⟩
end Go.Proofs.YtkpgdbicefahjaaDoor.Mx

/- A machine over values for Go functions, proved sound, and functions run on it: texts F4, F5, B2, F6, F8, F13, V9, VW, F30. -/
import Derived.Test.YtgkncgiglmdnaaaGreatDoorShA
import Derived.Shelf.SlSorted.Search
import Derived.Test.YtgkncgiglmdnaaaGreatDoorNeededXah
import Derived.Test.YtgkncgiglmdnaaaGreatDoorNeededXai
import Derived.Test.YtgkncgiglmdnaaaGreatDoorNeededXaj
/- Stores: valid (the program's). -/
namespace Go.Proofs.YtgkncgiglmdnaaaGreatDoor.Mx
set_option linter.all false
open Go Go.RowKit Go.Proofs
set_option linter.unusedSimpArgs false
theorem inB_def (a b c : Int) : inB a b c = (decide (b ≤ a) && decide (a ≤ c)) := by
  unfold inB; by_cases h : b ≤ a <;> by_cases h2 : a ≤ c <;> simp [h, h2]
def E104 : Env := { T := T0, kp := look [(0, [0]), (1, [1]), (2, []), (3, [1]), (4, [1, 3]), (5, [1, 3, 4]), (6, [1, 3, 4, 43, 44, 45]), (7, [1, 3, 4, 43, 44, 45]), (8, [1, 3, 4, 5, 6, 43, 44, 45]), (9, [1, 3, 4, 5, 6, 7, 43, 44, 45]), (10, []), (11, [1, 3, 6, 7, 43, 44, 45]), (12, [1, 3, 4, 6, 43, 44, 45]), (13, [1, 3, 4, 43, 44, 45]), (14, [1, 3])] }
attribute [local push_cast] E104
set_option maxHeartbeats 1000000 in
theorem implValidStore (s : Store) (hs : okStore s) : Does Tryz.prog 104 [.ag (storeC false s)] (.sc (.bool (validSt s)), []) := by
  refine does_of (E := E104) (rs := [.tmp 2]) (lent := []) tOk rfl Tryz.func104 rfl (by decide) rfl rfl (Nat.le_of_ble_eq_true rfl) (Nat.le_of_ble_eq_true rfl) ?_
  have hl := hs.1.1
  have hp := hs.2.1
  have hbb := bytes_le hs.1
  (simp -dsimp (disch := first | omega | (simp only [List.length_cons, List.length_nil, List.length_map, List.length_append, List.length_take, List.length_drop, List.length_replicate, List.length_set, mkG_len] <;> omega) | fail) only [push_cast, if_pos, decide_eq_true, decide_eq_false, Nat.reduceAdd, Nat.reduceSub, Nat.reduceMul, Nat.reduceBEq, Nat.reduceEqDiff, Nat.reduceLT, Nat.reduceLeDiff, Int.reduceToNat, Int.reduceLE, Int.reduceLT, Int.reduceAdd, Int.reduceSub, Int.reduceMul, Int.reduceEq, Int.reduceNeg, ↓reduceIte, reduceCtorEq]) <;> (repeat (refine (aw_draw (by kernel_rfl)).2 ?_; simp -dsimp (disch := first | omega | (simp only [List.length_cons, List.length_nil, List.length_map, List.length_append, List.length_take, List.length_drop, List.length_replicate, List.length_set, mkG_len] <;> omega) | fail) only [push_cast, if_pos, decide_eq_true, decide_eq_false, Nat.reduceAdd, Nat.reduceSub, Nat.reduceMul, Nat.reduceBEq, Nat.reduceEqDiff, Nat.reduceLT, Nat.reduceLeDiff, Int.reduceToNat, Int.reduceLE, Int.reduceLT, Int.reduceAdd, Int.reduceSub, Int.reduceMul, Int.reduceEq, Int.reduceNeg, ↓reduceIte, reduceCtorEq]))
  refine callC (widthOk ..) ?_
  by_cases c1 : inB s.w 1 8 = true
  rotate_left
  · have hv : validSt s = false := by simp [validSt, c1]
    (simp -dsimp (disch := first | omega | (simp only [c1, hv, List.length_cons, List.length_nil, List.length_map, List.length_append, List.length_take, List.length_drop, List.length_replicate, List.length_set, mkG_len] <;> omega) | fail) only [push_cast, if_pos, decide_eq_true, decide_eq_false, c1, hv, Nat.reduceAdd, Nat.reduceSub, Nat.reduceMul, Nat.reduceBEq, Nat.reduceEqDiff, Nat.reduceLT, Nat.reduceLeDiff, Int.reduceToNat, Int.reduceLE, Int.reduceLT, Int.reduceAdd, Int.reduceSub, Int.reduceMul, Int.reduceEq, Int.reduceNeg, ↓reduceIte, reduceCtorEq]) <;> (repeat (refine (aw_draw (by kernel_rfl)).2 ?_; simp -dsimp (disch := first | omega | (simp only [c1, hv, List.length_cons, List.length_nil, List.length_map, List.length_append, List.length_take, List.length_drop, List.length_replicate, List.length_set, mkG_len] <;> omega) | fail) only [push_cast, if_pos, decide_eq_true, decide_eq_false, c1, hv, Nat.reduceAdd, Nat.reduceSub, Nat.reduceMul, Nat.reduceBEq, Nat.reduceEqDiff, Nat.reduceLT, Nat.reduceLeDiff, Int.reduceToNat, Int.reduceLE, Int.reduceLT, Int.reduceAdd, Int.reduceSub, Int.reduceMul, Int.reduceEq, Int.reduceNeg, ↓reduceIte, reduceCtorEq]))
  by_cases c2 : 0 ≤ s.r
  rotate_left
  · have hv : validSt s = false := by simp [validSt, inB_def, c2]
    (simp -dsimp (disch := first | omega | (simp only [c1, hv, List.length_cons, List.length_nil, List.length_map, List.length_append, List.length_take, List.length_drop, List.length_replicate, List.length_set, mkG_len] <;> omega) | fail) only [push_cast, if_pos, decide_eq_true, decide_eq_false, c1, hv, Nat.reduceAdd, Nat.reduceSub, Nat.reduceMul, Nat.reduceBEq, Nat.reduceEqDiff, Nat.reduceLT, Nat.reduceLeDiff, Int.reduceToNat, Int.reduceLE, Int.reduceLT, Int.reduceAdd, Int.reduceSub, Int.reduceMul, Int.reduceEq, Int.reduceNeg, ↓reduceIte, reduceCtorEq]) <;> (repeat (refine (aw_draw (by kernel_rfl)).2 ?_; simp -dsimp (disch := first | omega | (simp only [c1, hv, List.length_cons, List.length_nil, List.length_map, List.length_append, List.length_take, List.length_drop, List.length_replicate, List.length_set, mkG_len] <;> omega) | fail) only [push_cast, if_pos, decide_eq_true, decide_eq_false, c1, hv, Nat.reduceAdd, Nat.reduceSub, Nat.reduceMul, Nat.reduceBEq, Nat.reduceEqDiff, Nat.reduceLT, Nat.reduceLeDiff, Int.reduceToNat, Int.reduceLE, Int.reduceLT, Int.reduceAdd, Int.reduceSub, Int.reduceMul, Int.reduceEq, Int.reduceNeg, ↓reduceIte, reduceCtorEq]))
  by_cases c2b : s.r ≤ 60000
  rotate_left
  · have hv : validSt s = false := by simp [validSt, inB_def, c2b]
    (simp -dsimp (disch := first | omega | (simp only [c1, hv, List.length_cons, List.length_nil, List.length_map, List.length_append, List.length_take, List.length_drop, List.length_replicate, List.length_set, mkG_len] <;> omega) | fail) only [push_cast, if_pos, decide_eq_true, decide_eq_false, c1, hv, Nat.reduceAdd, Nat.reduceSub, Nat.reduceMul, Nat.reduceBEq, Nat.reduceEqDiff, Nat.reduceLT, Nat.reduceLeDiff, Int.reduceToNat, Int.reduceLE, Int.reduceLT, Int.reduceAdd, Int.reduceSub, Int.reduceMul, Int.reduceEq, Int.reduceNeg, ↓reduceIte, reduceCtorEq]) <;> (repeat (refine (aw_draw (by kernel_rfl)).2 ?_; simp -dsimp (disch := first | omega | (simp only [c1, hv, List.length_cons, List.length_nil, List.length_map, List.length_append, List.length_take, List.length_drop, List.length_replicate, List.length_set, mkG_len] <;> omega) | fail) only [push_cast, if_pos, decide_eq_true, decide_eq_false, c1, hv, Nat.reduceAdd, Nat.reduceSub, Nat.reduceMul, Nat.reduceBEq, Nat.reduceEqDiff, Nat.reduceLT, Nat.reduceLeDiff, Int.reduceToNat, Int.reduceLE, Int.reduceLT, Int.reduceAdd, Int.reduceSub, Int.reduceMul, Int.reduceEq, Int.reduceNeg, ↓reduceIte, reduceCtorEq]))
  by_cases c3 : s.I.length ≤ 1000
  rotate_left
  · have hv : validSt s = false := by simp [validSt, c3]
    (simp -dsimp (disch := first | omega | (simp only [c1, hv, List.length_cons, List.length_nil, List.length_map, List.length_append, List.length_take, List.length_drop, List.length_replicate, List.length_set, mkG_len] <;> omega) | fail) only [push_cast, if_pos, decide_eq_true, decide_eq_false, c1, hv, Nat.reduceAdd, Nat.reduceSub, Nat.reduceMul, Nat.reduceBEq, Nat.reduceEqDiff, Nat.reduceLT, Nat.reduceLeDiff, Int.reduceToNat, Int.reduceLE, Int.reduceLT, Int.reduceAdd, Int.reduceSub, Int.reduceMul, Int.reduceEq, Int.reduceNeg, ↓reduceIte, reduceCtorEq]) <;> (repeat (refine (aw_draw (by kernel_rfl)).2 ?_; simp -dsimp (disch := first | omega | (simp only [c1, hv, List.length_cons, List.length_nil, List.length_map, List.length_append, List.length_take, List.length_drop, List.length_replicate, List.length_set, mkG_len] <;> omega) | fail) only [push_cast, if_pos, decide_eq_true, decide_eq_false, c1, hv, Nat.reduceAdd, Nat.reduceSub, Nat.reduceMul, Nat.reduceBEq, Nat.reduceEqDiff, Nat.reduceLT, Nat.reduceLeDiff, Int.reduceToNat, Int.reduceLE, Int.reduceLT, Int.reduceAdd, Int.reduceSub, Int.reduceMul, Int.reduceEq, Int.reduceNeg, ↓reduceIte, reduceCtorEq]))
  by_cases c4 : s.P.length ≤ 10
  rotate_left
  · have hv : validSt s = false := by simp [validSt, c4]
    (simp -dsimp (disch := first | omega | (simp only [c1, hv, List.length_cons, List.length_nil, List.length_map, List.length_append, List.length_take, List.length_drop, List.length_replicate, List.length_set, mkG_len] <;> omega) | fail) only [push_cast, if_pos, decide_eq_true, decide_eq_false, c1, hv, Nat.reduceAdd, Nat.reduceSub, Nat.reduceMul, Nat.reduceBEq, Nat.reduceEqDiff, Nat.reduceLT, Nat.reduceLeDiff, Int.reduceToNat, Int.reduceLE, Int.reduceLT, Int.reduceAdd, Int.reduceSub, Int.reduceMul, Int.reduceEq, Int.reduceNeg, ↓reduceIte, reduceCtorEq]) <;> (repeat (refine (aw_draw (by kernel_rfl)).2 ?_; simp -dsimp (disch := first | omega | (simp only [c1, hv, List.length_cons, List.length_nil, List.length_map, List.length_append, List.length_take, List.length_drop, List.length_replicate, List.length_set, mkG_len] <;> omega) | fail) only [push_cast, if_pos, decide_eq_true, decide_eq_false, c1, hv, Nat.reduceAdd, Nat.reduceSub, Nat.reduceMul, Nat.reduceBEq, Nat.reduceEqDiff, Nat.reduceLT, Nat.reduceLeDiff, Int.reduceToNat, Int.reduceLE, Int.reduceLT, Int.reduceAdd, Int.reduceSub, Int.reduceMul, Int.reduceEq, Int.reduceNeg, ↓reduceIte, reduceCtorEq]))
  (simp -dsimp (disch := first | omega | (simp only [c1, List.length_cons, List.length_nil, List.length_map, List.length_append, List.length_take, List.length_drop, List.length_replicate, List.length_set, mkG_len] <;> omega) | fail) only [push_cast, if_pos, decide_eq_true, decide_eq_false, c1, Nat.reduceAdd, Nat.reduceSub, Nat.reduceMul, Nat.reduceBEq, Nat.reduceEqDiff, Nat.reduceLT, Nat.reduceLeDiff, Int.reduceToNat, Int.reduceLE, Int.reduceLT, Int.reduceAdd, Int.reduceSub, Int.reduceMul, Int.reduceEq, Int.reduceNeg, ↓reduceIte, reduceCtorEq]) <;> (repeat (refine (aw_draw (by kernel_rfl)).2 ?_; simp -dsimp (disch := first | omega | (simp only [c1, List.length_cons, List.length_nil, List.length_map, List.length_append, List.length_take, List.length_drop, List.length_replicate, List.length_set, mkG_len] <;> omega) | fail) only [push_cast, if_pos, decide_eq_true, decide_eq_false, c1, Nat.reduceAdd, Nat.reduceSub, Nat.reduceMul, Nat.reduceBEq, Nat.reduceEqDiff, Nat.reduceLT, Nat.reduceLeDiff, Int.reduceToNat, Int.reduceLE, Int.reduceLT, Int.reduceAdd, Int.reduceSub, Int.reduceMul, Int.reduceEq, Int.reduceNeg, ↓reduceIte, reduceCtorEq]))
  refine callC (ascending _ _ hp) ?_
  cases c5 : ascF s.w none s.P with
  | false =>
    have hv : validSt s = false := by simp [validSt, c5]
    (simp -dsimp (disch := first | omega | (simp only [hv, List.length_cons, List.length_nil, List.length_map, List.length_append, List.length_take, List.length_drop, List.length_replicate, List.length_set, mkG_len] <;> omega) | fail) only [push_cast, if_pos, decide_eq_true, decide_eq_false, hv, Nat.reduceAdd, Nat.reduceSub, Nat.reduceMul, Nat.reduceBEq, Nat.reduceEqDiff, Nat.reduceLT, Nat.reduceLeDiff, Int.reduceToNat, Int.reduceLE, Int.reduceLT, Int.reduceAdd, Int.reduceSub, Int.reduceMul, Int.reduceEq, Int.reduceNeg, ↓reduceIte, reduceCtorEq]) <;> (repeat (refine (aw_draw (by kernel_rfl)).2 ?_; simp -dsimp (disch := first | omega | (simp only [hv, List.length_cons, List.length_nil, List.length_map, List.length_append, List.length_take, List.length_drop, List.length_replicate, List.length_set, mkG_len] <;> omega) | fail) only [push_cast, if_pos, decide_eq_true, decide_eq_false, hv, Nat.reduceAdd, Nat.reduceSub, Nat.reduceMul, Nat.reduceBEq, Nat.reduceEqDiff, Nat.reduceLT, Nat.reduceLeDiff, Int.reduceToNat, Int.reduceLE, Int.reduceLT, Int.reduceAdd, Int.reduceSub, Int.reduceMul, Int.reduceEq, Int.reduceNeg, ↓reduceIte, reduceCtorEq]))
  | true =>
  obtain ⟨R, hR⟩ : ∃ R, R = decide (bytes s.I ≤ s.r) := ⟨_, rfl⟩
  obtain ⟨M, hM⟩ : ∃ M, M = validSt s := ⟨_, rfl⟩
  rw [← hM]
  have hv : (itF s.w none s.I && R) = M := by
    simp only [hM, validSt, inB_def s.r, c1, c2, c2b, c3, c4, c5, hR, decide_true, Bool.true_and]
  clear hM
  (simp -dsimp (disch := first | omega | (simp only [List.length_cons, List.length_nil, List.length_map, List.length_append, List.length_take, List.length_drop, List.length_replicate, List.length_set, mkG_len] <;> omega) | fail) only [push_cast, if_pos, decide_eq_true, decide_eq_false, Nat.reduceAdd, Nat.reduceSub, Nat.reduceMul, Nat.reduceBEq, Nat.reduceEqDiff, Nat.reduceLT, Nat.reduceLeDiff, Int.reduceToNat, Int.reduceLE, Int.reduceLT, Int.reduceAdd, Int.reduceSub, Int.reduceMul, Int.reduceEq, Int.reduceNeg, ↓reduceIte, reduceCtorEq]) <;> (repeat (refine (aw_draw (by kernel_rfl)).2 ?_; simp -dsimp (disch := first | omega | (simp only [List.length_cons, List.length_nil, List.length_map, List.length_append, List.length_take, List.length_drop, List.length_replicate, List.length_set, mkG_len] <;> omega) | fail) only [push_cast, if_pos, decide_eq_true, decide_eq_false, Nat.reduceAdd, Nat.reduceSub, Nat.reduceMul, Nat.reduceBEq, Nat.reduceEqDiff, Nat.reduceLT, Nat.reduceLeDiff, Int.reduceToNat, Int.reduceLE, Int.reduceLT, Int.reduceAdd, Int.reduceSub, Int.reduceMul, Int.reduceEq, Int.reduceNeg, ↓reduceIte, reduceCtorEq]))
  refine loop_ind (α := Nat × Option Str) (fun p => p.1 ≤ s.I.length ∧ (p.2 = none ↔ p.1 = 0) ∧ (itF s.w p.2 (s.I.drop p.1) && R) = M) (fun p => ⟨[(1, .pt 1 0 0), (3, .sc (.int .i64 (bytes (s.I.take p.1)))), (4, .sc (.string (p.2.getD em))), (43, .sl false 2 (s.I.map (itemC false))), (44, .sc (.int .i64 s.I.length)), (45, .sc (.int .i64 p.1))], [(1, .bx (storeC false s))], 2⟩) (fun p => s.I.length - p.1) (0, none) ⟨Nat.zero_le _, by simp, hv⟩ ?_ ?_
  · simp -dsimp (disch := first | omega | (simp only [em, List.take_zero, bytes, List.length_cons, List.length_nil, List.length_map, List.length_append, List.length_take, List.length_drop, List.length_replicate, List.length_set, mkG_len] <;> omega) | fail) only [push_cast, if_pos, decide_eq_true, decide_eq_false, em, List.take_zero, bytes, Nat.reduceAdd, Nat.reduceSub, Nat.reduceMul, Nat.reduceBEq, Nat.reduceEqDiff, Nat.reduceLT, Nat.reduceLeDiff, Int.reduceToNat, Int.reduceLE, Int.reduceLT, Int.reduceAdd, Int.reduceSub, Int.reduceMul, Int.reduceEq, Int.reduceNeg, ↓reduceIte, reduceCtorEq]
  rintro ⟨i, p⟩ ⟨hi, hp0, hy⟩ ih
  dsimp only at hi hp0 hy
  by_cases h : i < s.I.length
  · obtain ⟨x, hx⟩ := ex_get h
    have hxb : x.t.size ≤ 2097152 := hs.1.2 x (List.mem_of_getElem? hx)
    have h1 := bytes_app (s.I.take (i + 1)) (s.I.drop (i + 1))
    have h2 := bytes_app (s.I.take i) [x]
    rw [← take_step hx, bytes, bytes] at h2
    rw [List.take_append_drop] at h1
    have h3 := bytes_nn (s.I.drop (i + 1))
    have h4 := bytes_nn (s.I.take i)
    rw [Int.add_zero] at h2
    rw [drop_step hx, itF] at hy
    simp -dsimp (disch := first | omega | (simp only [hx, List.length_cons, List.length_nil, List.length_map, List.length_append, List.length_take, List.length_drop, List.length_replicate, List.length_set, mkG_len] <;> omega) | fail) only [push_cast, if_pos, decide_eq_true, decide_eq_false, hx, Nat.reduceAdd, Nat.reduceSub, Nat.reduceMul, Nat.reduceBEq, Nat.reduceEqDiff, Nat.reduceLT, Nat.reduceLeDiff, Int.reduceToNat, Int.reduceLE, Int.reduceLT, Int.reduceAdd, Int.reduceSub, Int.reduceMul, Int.reduceEq, Int.reduceNeg, ↓reduceIte, reduceCtorEq]
    refine callC (implSum _ _ (by omega)) ?_
    simp -dsimp (disch := first | omega | (simp only [List.length_cons, List.length_nil, List.length_map, List.length_append, List.length_take, List.length_drop, List.length_replicate, List.length_set, mkG_len] <;> omega) | fail) only [push_cast, if_pos, decide_eq_true, decide_eq_false, Nat.reduceAdd, Nat.reduceSub, Nat.reduceMul, Nat.reduceBEq, Nat.reduceEqDiff, Nat.reduceLT, Nat.reduceLeDiff, Int.reduceToNat, Int.reduceLE, Int.reduceLT, Int.reduceAdd, Int.reduceSub, Int.reduceMul, Int.reduceEq, Int.reduceNeg, ↓reduceIte, reduceCtorEq]
    cases d1 : inB x.t.size 1 7000 with
    | false =>
      rw [d1, Bool.false_and, Bool.false_and, Bool.false_and, Bool.false_and] at hy
      by_cases d1a : 1 ≤ (x.t.size : Int)
      · have d1b : ¬ (x.t.size : Int) ≤ 7000 := fun e => by rw [inB_def, decide_eq_true d1a, decide_eq_true e] at d1; cases d1
        (simp -dsimp (disch := first | omega | (simp only [← hy, List.length_cons, List.length_nil, List.length_map, List.length_append, List.length_take, List.length_drop, List.length_replicate, List.length_set, mkG_len] <;> omega) | fail) only [push_cast, if_pos, decide_eq_true, decide_eq_false, ← hy, Nat.reduceAdd, Nat.reduceSub, Nat.reduceMul, Nat.reduceBEq, Nat.reduceEqDiff, Nat.reduceLT, Nat.reduceLeDiff, Int.reduceToNat, Int.reduceLE, Int.reduceLT, Int.reduceAdd, Int.reduceSub, Int.reduceMul, Int.reduceEq, Int.reduceNeg, ↓reduceIte, reduceCtorEq]) <;> (repeat (refine (aw_draw (by kernel_rfl)).2 ?_; simp -dsimp (disch := first | omega | (simp only [← hy, List.length_cons, List.length_nil, List.length_map, List.length_append, List.length_take, List.length_drop, List.length_replicate, List.length_set, mkG_len] <;> omega) | fail) only [push_cast, if_pos, decide_eq_true, decide_eq_false, ← hy, Nat.reduceAdd, Nat.reduceSub, Nat.reduceMul, Nat.reduceBEq, Nat.reduceEqDiff, Nat.reduceLT, Nat.reduceLeDiff, Int.reduceToNat, Int.reduceLE, Int.reduceLT, Int.reduceAdd, Int.reduceSub, Int.reduceMul, Int.reduceEq, Int.reduceNeg, ↓reduceIte, reduceCtorEq]))
      · (simp -dsimp (disch := first | omega | (simp only [← hy, List.length_cons, List.length_nil, List.length_map, List.length_append, List.length_take, List.length_drop, List.length_replicate, List.length_set, mkG_len] <;> omega) | fail) only [push_cast, if_pos, decide_eq_true, decide_eq_false, ← hy, Nat.reduceAdd, Nat.reduceSub, Nat.reduceMul, Nat.reduceBEq, Nat.reduceEqDiff, Nat.reduceLT, Nat.reduceLeDiff, Int.reduceToNat, Int.reduceLE, Int.reduceLT, Int.reduceAdd, Int.reduceSub, Int.reduceMul, Int.reduceEq, Int.reduceNeg, ↓reduceIte, reduceCtorEq]) <;> (repeat (refine (aw_draw (by kernel_rfl)).2 ?_; simp -dsimp (disch := first | omega | (simp only [← hy, List.length_cons, List.length_nil, List.length_map, List.length_append, List.length_take, List.length_drop, List.length_replicate, List.length_set, mkG_len] <;> omega) | fail) only [push_cast, if_pos, decide_eq_true, decide_eq_false, ← hy, Nat.reduceAdd, Nat.reduceSub, Nat.reduceMul, Nat.reduceBEq, Nat.reduceEqDiff, Nat.reduceLT, Nat.reduceLeDiff, Int.reduceToNat, Int.reduceLE, Int.reduceLT, Int.reduceAdd, Int.reduceSub, Int.reduceMul, Int.reduceEq, Int.reduceNeg, ↓reduceIte, reduceCtorEq]))
    | true =>
    have d1a : 1 ≤ (x.t.size : Int) ∧ (x.t.size : Int) ≤ 7000 := by unfold inB at d1; exact of_decide_eq_true d1
    rw [d1, Bool.true_and] at hy
    cases d2 : inB x.u 0 1000000 with
    | false =>
      rw [d2, Bool.false_and, Bool.false_and, Bool.false_and] at hy
      by_cases d1a : 0 ≤ x.u
      · have d1b : ¬ x.u ≤ 1000000 := fun e => by rw [inB_def, decide_eq_true d1a, decide_eq_true e] at d2; cases d2
        (simp -dsimp (disch := first | omega | (simp only [← hy, List.length_cons, List.length_nil, List.length_map, List.length_append, List.length_take, List.length_drop, List.length_replicate, List.length_set, mkG_len] <;> omega) | fail) only [push_cast, if_pos, decide_eq_true, decide_eq_false, ← hy, Nat.reduceAdd, Nat.reduceSub, Nat.reduceMul, Nat.reduceBEq, Nat.reduceEqDiff, Nat.reduceLT, Nat.reduceLeDiff, Int.reduceToNat, Int.reduceLE, Int.reduceLT, Int.reduceAdd, Int.reduceSub, Int.reduceMul, Int.reduceEq, Int.reduceNeg, ↓reduceIte, reduceCtorEq]) <;> (repeat (refine (aw_draw (by kernel_rfl)).2 ?_; simp -dsimp (disch := first | omega | (simp only [← hy, List.length_cons, List.length_nil, List.length_map, List.length_append, List.length_take, List.length_drop, List.length_replicate, List.length_set, mkG_len] <;> omega) | fail) only [push_cast, if_pos, decide_eq_true, decide_eq_false, ← hy, Nat.reduceAdd, Nat.reduceSub, Nat.reduceMul, Nat.reduceBEq, Nat.reduceEqDiff, Nat.reduceLT, Nat.reduceLeDiff, Int.reduceToNat, Int.reduceLE, Int.reduceLT, Int.reduceAdd, Int.reduceSub, Int.reduceMul, Int.reduceEq, Int.reduceNeg, ↓reduceIte, reduceCtorEq]))
      · (simp -dsimp (disch := first | omega | (simp only [← hy, List.length_cons, List.length_nil, List.length_map, List.length_append, List.length_take, List.length_drop, List.length_replicate, List.length_set, mkG_len] <;> omega) | fail) only [push_cast, if_pos, decide_eq_true, decide_eq_false, ← hy, Nat.reduceAdd, Nat.reduceSub, Nat.reduceMul, Nat.reduceBEq, Nat.reduceEqDiff, Nat.reduceLT, Nat.reduceLeDiff, Int.reduceToNat, Int.reduceLE, Int.reduceLT, Int.reduceAdd, Int.reduceSub, Int.reduceMul, Int.reduceEq, Int.reduceNeg, ↓reduceIte, reduceCtorEq]) <;> (repeat (refine (aw_draw (by kernel_rfl)).2 ?_; simp -dsimp (disch := first | omega | (simp only [← hy, List.length_cons, List.length_nil, List.length_map, List.length_append, List.length_take, List.length_drop, List.length_replicate, List.length_set, mkG_len] <;> omega) | fail) only [push_cast, if_pos, decide_eq_true, decide_eq_false, ← hy, Nat.reduceAdd, Nat.reduceSub, Nat.reduceMul, Nat.reduceBEq, Nat.reduceEqDiff, Nat.reduceLT, Nat.reduceLeDiff, Int.reduceToNat, Int.reduceLE, Int.reduceLT, Int.reduceAdd, Int.reduceSub, Int.reduceMul, Int.reduceEq, Int.reduceNeg, ↓reduceIte, reduceCtorEq]))
    | true =>
    have d2a : 0 ≤ x.u ∧ x.u ≤ 1000000 := by unfold inB at d2; exact of_decide_eq_true d2
    rw [d2, Bool.true_and] at hy
    cases p with
    | none =>
      obtain rfl := hp0.1 rfl
      rw [show aft none (sumS x.t s.w) = true from rfl, Bool.true_and] at hy
      simp -dsimp (disch := first | omega | (simp only [List.length_cons, List.length_nil, List.length_map, List.length_append, List.length_take, List.length_drop, List.length_replicate, List.length_set, mkG_len] <;> omega) | fail) only [push_cast, if_pos, decide_eq_true, decide_eq_false, Nat.reduceAdd, Nat.reduceSub, Nat.reduceMul, Nat.reduceBEq, Nat.reduceEqDiff, Nat.reduceLT, Nat.reduceLeDiff, Int.reduceToNat, Int.reduceLE, Int.reduceLT, Int.reduceAdd, Int.reduceSub, Int.reduceMul, Int.reduceEq, Int.reduceNeg, ↓reduceIte, reduceCtorEq]
      refine ih (1, some (sumS x.t s.w)) _ (by simp; omega) ⟨h, by simp, hy⟩ ?_
      simp only [] at h2 ⊢
      rw [h2]
      simp -dsimp (disch := first | omega | (simp only [wr_id, List.take_zero, bytes, List.length_cons, List.length_nil, List.length_map, List.length_append, List.length_take, List.length_drop, List.length_replicate, List.length_set, mkG_len] <;> omega) | fail) only [push_cast, if_pos, decide_eq_true, decide_eq_false, wr_id, List.take_zero, bytes, Nat.reduceAdd, Nat.reduceSub, Nat.reduceMul, Nat.reduceBEq, Nat.reduceEqDiff, Nat.reduceLT, Nat.reduceLeDiff, Int.reduceToNat, Int.reduceLE, Int.reduceLT, Int.reduceAdd, Int.reduceSub, Int.reduceMul, Int.reduceEq, Int.reduceNeg, ↓reduceIte, reduceCtorEq]
    | some q =>
      have hi0 : i ≠ 0 := fun e => by have := hp0.2 e; cases this
      cases d3 : lts q (sumS x.t s.w) with
      | false =>
        rw [show aft (some q) (sumS x.t s.w) = lts q (sumS x.t s.w) from rfl, d3, Bool.false_and, Bool.false_and] at hy
        (simp -dsimp (disch := first | omega | (simp only [d3, ← hy, List.length_cons, List.length_nil, List.length_map, List.length_append, List.length_take, List.length_drop, List.length_replicate, List.length_set, mkG_len] <;> omega) | fail) only [push_cast, if_pos, decide_eq_true, decide_eq_false, d3, ← hy, Nat.reduceAdd, Nat.reduceSub, Nat.reduceMul, Nat.reduceBEq, Nat.reduceEqDiff, Nat.reduceLT, Nat.reduceLeDiff, Int.reduceToNat, Int.reduceLE, Int.reduceLT, Int.reduceAdd, Int.reduceSub, Int.reduceMul, Int.reduceEq, Int.reduceNeg, ↓reduceIte, reduceCtorEq]) <;> (repeat (refine (aw_draw (by kernel_rfl)).2 ?_; simp -dsimp (disch := first | omega | (simp only [d3, ← hy, List.length_cons, List.length_nil, List.length_map, List.length_append, List.length_take, List.length_drop, List.length_replicate, List.length_set, mkG_len] <;> omega) | fail) only [push_cast, if_pos, decide_eq_true, decide_eq_false, d3, ← hy, Nat.reduceAdd, Nat.reduceSub, Nat.reduceMul, Nat.reduceBEq, Nat.reduceEqDiff, Nat.reduceLT, Nat.reduceLeDiff, Int.reduceToNat, Int.reduceLE, Int.reduceLT, Int.reduceAdd, Int.reduceSub, Int.reduceMul, Int.reduceEq, Int.reduceNeg, ↓reduceIte, reduceCtorEq]))
      | true =>
        rw [show aft (some q) (sumS x.t s.w) = lts q (sumS x.t s.w) from rfl, d3, Bool.true_and] at hy
        simp -dsimp (disch := first | omega | (simp only [d3, List.length_cons, List.length_nil, List.length_map, List.length_append, List.length_take, List.length_drop, List.length_replicate, List.length_set, mkG_len] <;> omega) | fail) only [push_cast, if_pos, decide_eq_true, decide_eq_false, d3, Nat.reduceAdd, Nat.reduceSub, Nat.reduceMul, Nat.reduceBEq, Nat.reduceEqDiff, Nat.reduceLT, Nat.reduceLeDiff, Int.reduceToNat, Int.reduceLE, Int.reduceLT, Int.reduceAdd, Int.reduceSub, Int.reduceMul, Int.reduceEq, Int.reduceNeg, ↓reduceIte, reduceCtorEq]
        refine ih (i + 1, some (sumS x.t s.w)) _ (by simp; omega) ⟨h, by simp, hy⟩ ?_
        simp only []
        rw [h2]
        simp -dsimp (disch := first | omega | (simp only [wr_id, List.length_cons, List.length_nil, List.length_map, List.length_append, List.length_take, List.length_drop, List.length_replicate, List.length_set, mkG_len] <;> omega) | fail) only [push_cast, if_pos, decide_eq_true, decide_eq_false, wr_id, Nat.reduceAdd, Nat.reduceSub, Nat.reduceMul, Nat.reduceBEq, Nat.reduceEqDiff, Nat.reduceLT, Nat.reduceLeDiff, Int.reduceToNat, Int.reduceLE, Int.reduceLT, Int.reduceAdd, Int.reduceSub, Int.reduceMul, Int.reduceEq, Int.reduceNeg, ↓reduceIte, reduceCtorEq]
  rw [List.drop_eq_nil_of_le (by omega), itF, Bool.true_and] at hy
  (simp -dsimp (disch := first | omega | (simp only [← hy, hR, List.take_of_length_le, List.length_cons, List.length_nil, List.length_map, List.length_append, List.length_take, List.length_drop, List.length_replicate, List.length_set, mkG_len] <;> omega) | fail) only [push_cast, if_pos, decide_eq_true, decide_eq_false, ← hy, hR, List.take_of_length_le, Nat.reduceAdd, Nat.reduceSub, Nat.reduceMul, Nat.reduceBEq, Nat.reduceEqDiff, Nat.reduceLT, Nat.reduceLeDiff, Int.reduceToNat, Int.reduceLE, Int.reduceLT, Int.reduceAdd, Int.reduceSub, Int.reduceMul, Int.reduceEq, Int.reduceNeg, ↓reduceIte, reduceCtorEq]) <;> (repeat (refine (aw_draw (by kernel_rfl)).2 ?_; simp -dsimp (disch := first | omega | (simp only [← hy, hR, List.take_of_length_le, List.length_cons, List.length_nil, List.length_map, List.length_append, List.length_take, List.length_drop, List.length_replicate, List.length_set, mkG_len] <;> omega) | fail) only [push_cast, if_pos, decide_eq_true, decide_eq_false, ← hy, hR, List.take_of_length_le, Nat.reduceAdd, Nat.reduceSub, Nat.reduceMul, Nat.reduceBEq, Nat.reduceEqDiff, Nat.reduceLT, Nat.reduceLeDiff, Int.reduceToNat, Int.reduceLE, Int.reduceLT, Int.reduceAdd, Int.reduceSub, Int.reduceMul, Int.reduceEq, Int.reduceNeg, ↓reduceIte, reduceCtorEq]))
end Go.Proofs.YtgkncgiglmdnaaaGreatDoor.Mx

/- A sum is added «to» an ascending list. -/
namespace Go.Proofs.YtgkncgiglmdnaaaGreatDoor.Mx
set_option linter.all false
open Go Go.RowKit Go.Proofs
set_option linter.unusedSimpArgs false
def E137 : Env := { T := T0, kp := look [(0, [0, 1]), (1, [0, 1]), (2, [0, 1, 5]), (3, [0, 1, 5]), (4, [0, 1, 5]), (5, [0]), (6, [0, 1, 5])], dp := look2 [(6, [[], [], [], [1, 2], [0, 1, 2, 3], [], [5], [0, 1, 2, 3, 4, 5, 6], [], [], [8, 9], [0, 1, 2, 3, 4, 5, 6, 7, 8, 9, 10], [0, 1, 2, 3, 4, 5, 6, 7, 8, 9, 10, 11]])] }
attribute [local push_cast] E137
theorem l4Add (l : List Str) (s : Str) (hl : l.length ≤ 2097152) : Does Tryz.prog 137 [.sl true 1 (l.map strR), .sc (.string s)] (.sl true 1 ((addS l s).map strR), []) := by
  refine does_of (E := E137) (rs := [.tmp 4]) (lent := []) tOk rfl Tryz.func137 rfl (by decide) rfl rfl (Nat.le_of_ble_eq_true rfl) (Nat.le_of_ble_eq_true rfl) ?_
  have hr := rk_le l s
  obtain ⟨M, hM⟩ : ∃ M, M = addS l s := ⟨_, rfl⟩
  rw [← hM]
  simp -dsimp (disch := first | omega | (simp only [List.length_cons, List.length_nil, List.length_map, List.length_append, List.length_take, List.length_drop, List.length_replicate, List.length_set, mkG_len] <;> omega) | fail) only [push_cast, if_pos, decide_eq_true, decide_eq_false, Nat.reduceAdd, Nat.reduceSub, Nat.reduceMul, Nat.reduceBEq, Nat.reduceEqDiff, Nat.reduceLT, Nat.reduceLeDiff, Int.reduceToNat, Int.reduceLE, Int.reduceLT, Int.reduceAdd, Int.reduceSub, Int.reduceMul, Int.reduceEq, Int.reduceNeg, ↓reduceIte, reduceCtorEq]
  refine loop_ind (α := Nat) (fun i => i ≤ rk l s) (fun i => ⟨[(0, .ow 1 0 l.length), (1, .sc (.string s)), (5, .sc (.int .i64 i))], [(1, .ar 1 0 (l.map strR))], 2⟩) (fun i => rk l s - i) 0 (Nat.zero_le _) ?_ ?_
  · simp -dsimp (disch := first | omega | (simp only [List.length_cons, List.length_nil, List.length_map, List.length_append, List.length_take, List.length_drop, List.length_replicate, List.length_set, mkG_len] <;> omega) | fail) only [push_cast, if_pos, decide_eq_true, decide_eq_false, Nat.reduceAdd, Nat.reduceSub, Nat.reduceMul, Nat.reduceBEq, Nat.reduceEqDiff, Nat.reduceLT, Nat.reduceLeDiff, Int.reduceToNat, Int.reduceLE, Int.reduceLT, Int.reduceAdd, Int.reduceSub, Int.reduceMul, Int.reduceEq, Int.reduceNeg, ↓reduceIte, reduceCtorEq]
  intro i hi ih
  by_cases h : i < l.length
  · obtain ⟨x, hx⟩ := ex_get h
    cases e : lts x s with
    | true =>
      have := rk_step hi hx e
      simp -dsimp (disch := first | omega | (simp only [hx, e, List.length_cons, List.length_nil, List.length_map, List.length_append, List.length_take, List.length_drop, List.length_replicate, List.length_set, mkG_len] <;> omega) | fail) only [push_cast, if_pos, decide_eq_true, decide_eq_false, hx, e, Nat.reduceAdd, Nat.reduceSub, Nat.reduceMul, Nat.reduceBEq, Nat.reduceEqDiff, Nat.reduceLT, Nat.reduceLeDiff, Int.reduceToNat, Int.reduceLE, Int.reduceLT, Int.reduceAdd, Int.reduceSub, Int.reduceMul, Int.reduceEq, Int.reduceNeg, ↓reduceIte, reduceCtorEq]
      refine ih (i + 1) _ (by omega) this ?_
      simp -dsimp (disch := first | omega | (simp only [wr_id, List.length_cons, List.length_nil, List.length_map, List.length_append, List.length_take, List.length_drop, List.length_replicate, List.length_set, mkG_len] <;> omega) | fail) only [push_cast, if_pos, decide_eq_true, decide_eq_false, wr_id, Nat.reduceAdd, Nat.reduceSub, Nat.reduceMul, Nat.reduceBEq, Nat.reduceEqDiff, Nat.reduceLT, Nat.reduceLeDiff, Int.reduceToNat, Int.reduceLE, Int.reduceLT, Int.reduceAdd, Int.reduceSub, Int.reduceMul, Int.reduceEq, Int.reduceNeg, ↓reduceIte, reduceCtorEq]
    | false =>
      have hk : i = rk l s := by
        rcases Nat.lt_or_eq_of_le hi with h | h
        · obtain ⟨y, hy, hy2⟩ := rk_all h
          rw [hx] at hy; cases hy; rw [e] at hy2; cases hy2
        · exact h
      by_cases e2 : x = s
      · have hM2 : M = l := by rw [hM]; unfold addS hasS; rw [← hk, hx, e2]; simp
        subst e2
        simp -dsimp (disch := first | omega | (simp only [hx, e, hM2, List.length_cons, List.length_nil, List.length_map, List.length_append, List.length_take, List.length_drop, List.length_replicate, List.length_set, mkG_len] <;> omega) | fail) only [push_cast, if_pos, decide_eq_true, decide_eq_false, hx, e, hM2, Nat.reduceAdd, Nat.reduceSub, Nat.reduceMul, Nat.reduceBEq, Nat.reduceEqDiff, Nat.reduceLT, Nat.reduceLeDiff, Int.reduceToNat, Int.reduceLE, Int.reduceLT, Int.reduceAdd, Int.reduceSub, Int.reduceMul, Int.reduceEq, Int.reduceNeg, ↓reduceIte, reduceCtorEq]
      · have hM2 : M = l.take i ++ s :: l.drop i := by rw [hM]; unfold addS hasS; rw [← hk, hx]; simp [e2]
        have hs : ∀ n, seg (l.map strR) 0 n = (l.take n).map strR := fun n => by simp [seg, List.map_take]
        have hs2 : ∀ a n, l.length ≤ a + n → seg (l.map strR) a n = (l.drop a).map strR := fun a n h => by unfold seg; rw [List.take_of_length_le (by simp; omega), List.map_drop]
        (simp -dsimp (disch := first | omega | (simp only [hx, e, e2, hs, hs2, List.length_cons, List.length_nil, List.length_map, List.length_append, List.length_take, List.length_drop, List.length_replicate, List.length_set, mkG_len] <;> omega) | fail) only [push_cast, if_pos, decide_eq_true, decide_eq_false, hx, e, e2, hs, hs2, Nat.reduceAdd, Nat.reduceSub, Nat.reduceMul, Nat.reduceBEq, Nat.reduceEqDiff, Nat.reduceLT, Nat.reduceLeDiff, Int.reduceToNat, Int.reduceLE, Int.reduceLT, Int.reduceAdd, Int.reduceSub, Int.reduceMul, Int.reduceEq, Int.reduceNeg, ↓reduceIte, reduceCtorEq]) <;> (repeat (refine (aw_draw (by kernel_rfl)).2 ?_; simp -dsimp (disch := first | omega | (simp only [hx, e, e2, hs, hs2, List.length_cons, List.length_nil, List.length_map, List.length_append, List.length_take, List.length_drop, List.length_replicate, List.length_set, mkG_len] <;> omega) | fail) only [push_cast, if_pos, decide_eq_true, decide_eq_false, hx, e, e2, hs, hs2, Nat.reduceAdd, Nat.reduceSub, Nat.reduceMul, Nat.reduceBEq, Nat.reduceEqDiff, Nat.reduceLT, Nat.reduceLeDiff, Int.reduceToNat, Int.reduceLE, Int.reduceLT, Int.reduceAdd, Int.reduceSub, Int.reduceMul, Int.reduceEq, Int.reduceNeg, ↓reduceIte, reduceCtorEq]))
        simp [hM2, strR]
  · have hk : i = l.length := by omega
    have hM2 : M = l ++ [s] := by
      rw [hM]; unfold addS hasS
      have : rk l s = l.length := by omega
      rw [this]; simp
    subst hk
    have hs : ∀ n, seg (l.map strR) 0 n = (l.take n).map strR := fun n => by simp [seg, List.map_take]
    have hs2 : ∀ a n, l.length ≤ a + n → seg (l.map strR) a n = (l.drop a).map strR := fun a n h => by unfold seg; rw [List.take_of_length_le (by simp; omega), List.map_drop]
    (simp -dsimp (disch := first | omega | (simp only [hs, hs2, List.length_cons, List.length_nil, List.length_map, List.length_append, List.length_take, List.length_drop, List.length_replicate, List.length_set, mkG_len] <;> omega) | fail) only [push_cast, if_pos, decide_eq_true, decide_eq_false, hs, hs2, Nat.reduceAdd, Nat.reduceSub, Nat.reduceMul, Nat.reduceBEq, Nat.reduceEqDiff, Nat.reduceLT, Nat.reduceLeDiff, Int.reduceToNat, Int.reduceLE, Int.reduceLT, Int.reduceAdd, Int.reduceSub, Int.reduceMul, Int.reduceEq, Int.reduceNeg, ↓reduceIte, reduceCtorEq]) <;> (repeat (refine (aw_draw (by kernel_rfl)).2 ?_; simp -dsimp (disch := first | omega | (simp only [hs, hs2, List.length_cons, List.length_nil, List.length_map, List.length_append, List.length_take, List.length_drop, List.length_replicate, List.length_set, mkG_len] <;> omega) | fail) only [push_cast, if_pos, decide_eq_true, decide_eq_false, hs, hs2, Nat.reduceAdd, Nat.reduceSub, Nat.reduceMul, Nat.reduceBEq, Nat.reduceEqDiff, Nat.reduceLT, Nat.reduceLeDiff, Int.reduceToNat, Int.reduceLE, Int.reduceLT, Int.reduceAdd, Int.reduceSub, Int.reduceMul, Int.reduceEq, Int.reduceNeg, ↓reduceIte, reduceCtorEq]))
    simp [hM2, strR]
end Go.Proofs.YtgkncgiglmdnaaaGreatDoor.Mx

/- sort.SearchStrings. -/
namespace Go.Proofs.YtgkncgiglmdnaaaGreatDoor.Mx
set_option linter.all false
open Go Go.RowKit Go.Proofs
theorem lts_def (a b : Str) : lts a b = decide (a.data.toList < b.data.toList) := bytesLess_eq _ _
/-- what is less stands first -/
def parts (l : List Str) (s : Str) : Prop := ∀ a b : Nat, a ≤ b → ∀ x y, l[a]? = some x → l[b]? = some y → lts y s = true → lts x s = true
theorem countP_rk {s : Str} : ∀ {l : List Str}, parts l s → l.countP (fun y => lts y s) = rk l s
  | [], _ => rfl
  | a :: r, h => by
    rw [List.countP_cons, rk]
    have ht : parts r s := fun i j hij x y hx hy => h (i + 1) (j + 1) (by omega) x y hx hy
    cases ha : lts a s with
    | true => rw [countP_rk ht]; simp
    | false =>
      have : r.countP (fun y => lts y s) = 0 := by
        rw [List.countP_eq_zero]
        intro y hy
        obtain ⟨j, hj⟩ := List.mem_iff_getElem?.1 hy
        intro hc
        have := h 0 (j + 1) (by omega) a y rfl hj hc
        rw [ha] at this; cases this
      rw [this]; simp
theorem searchStrings (l : List Str) (s : Str) (hl : l.length ≤ 2097152) (hp : parts l s) : Does Tryz.prog 172 [.sl false 1 (l.map strR), .sc (.string s)] (.sc (.int .i64 (rk l s)), []) := by
  refine does_pure Tryz.func172 rfl rfl rfl fun w ok G args hA => ?_
  obtain ⟨u, v, rfl, h0, h1⟩ := args2 hA
  obtain rfl := rep_str (own_rep h1 (by intro z r h; cases h) (by intro cs h; cases h))
  rcases rep_strs (own_rep h0 (by intro z r h; cases h) (by intro cs h; cases h)) with ⟨rfl, A, c, rfl⟩ | ⟨b, off, cap, rfl, hc, hb, hcell⟩
  · exact Any.sort_SearchStrings_none Tryz.searchStrings A c s w
  · have e2 : ∀ i x, l[i]? = some x → (l.toArray)[i]! = x := fun i x hx => by
      have hi := idx_lt hx
      rw [getElem!_pos l.toArray i (by simpa using hi)]
      rw [List.getElem?_eq_getElem hi] at hx
      simpa using hx
    have z := Any.sort_SearchStrings Tryz.searchStrings b off cap l.toArray s w (fun i hi => by
        obtain ⟨x, hx⟩ := ex_get (by simpa using hi : i < l.length)
        rw [e2 i x hx]; exact hcell i x hx) (hA.inn b hb) (by simp; omega) (fun i j hij hj => by
        obtain ⟨y, hy⟩ := ex_get (by simpa using hj : j < l.length)
        obtain ⟨x, hx⟩ := ex_get (show i < l.length by have := idx_lt hy; omega)
        rw [e2 i x hx, e2 j y hy, ← lts_def, ← lts_def]
        intro q
        cases z : lts y s with
        | false => rfl
        | true => rw [hp i j hij x y hx hy z] at q; exact q)
    simp only [List.size_toArray] at z
    refine z.mono fun e w' hh => ⟨?_, hh.2⟩
    rw [hh.1, ← countP_rk hp]
    congr 4
    funext y
    rw [lts_def]; simp
end Go.Proofs.YtgkncgiglmdnaaaGreatDoor.Mx

/- Pins. -/
namespace Go.Proofs.YtgkncgiglmdnaaaGreatDoor.Mx
set_option linter.all false
open Go Go.RowKit Go.Proofs
set_option linter.unusedSimpArgs false
theorem lts_trans {a b c : Str} (h1 : lts a b = true) (h2 : lts b c = true) : lts a c = true := by
  rw [lts_def] at *
  exact decide_eq_true (List.lt_trans (of_decide_eq_true h1) (of_decide_eq_true h2))
def E143 : Env := { T := T0, kp := look [(0, [0, 1]), (1, [1, 2]), (2, [1, 2, 6])], dp := look2 [(2, [[], [], [], [2], [2, 3], [1, 2, 3, 4], [1, 2, 3, 4, 5], [1, 2, 3, 4, 5, 6], [1, 2, 3, 4, 5, 6, 7], [1, 2, 3, 4, 5, 6], [1, 2, 3, 4, 5, 6, 7, 8, 9], [1, 2, 3, 4, 5, 6, 7, 8, 9, 10], [1, 2, 3, 4, 5, 6], [1, 2, 3, 4, 5, 6, 7, 8, 9, 10, 11, 12], [1, 2, 3, 4, 5, 6, 7, 8, 9, 10, 11, 12, 13], [0, 1, 2, 3, 4, 5, 6], [0, 1, 2, 3, 4, 5, 6, 7, 8, 9, 10, 11, 12, 13, 14, 15]])] }
attribute [local push_cast] E143
theorem pinned (s : Store) (n : Str) (hs : okStore s) (hp : parts s.P n) : Does Tryz.prog 143 [.ag (storeC false s), .sc (.string n)] (.tu [.sc (.int .i64 (rk s.P n)), .sc (.bool (hasS s.P n))], []) := by
  refine does_of (E := E143) (rs := [.tmp 4, .tmp 5]) (lent := []) tOk rfl Tryz.func143 rfl (by decide) rfl rfl (Nat.le_of_ble_eq_true rfl) (Nat.le_of_ble_eq_true rfl) ?_
  have hr := rk_le s.P n
  have hl := hs.2.1
  (simp -dsimp (disch := first | omega | (simp only [List.length_cons, List.length_nil, List.length_map, List.length_append, List.length_take, List.length_drop, List.length_replicate, List.length_set, mkG_len] <;> omega) | fail) only [push_cast, if_pos, decide_eq_true, decide_eq_false, Nat.reduceAdd, Nat.reduceSub, Nat.reduceMul, Nat.reduceBEq, Nat.reduceEqDiff, Nat.reduceLT, Nat.reduceLeDiff, Int.reduceToNat, Int.reduceLE, Int.reduceLT, Int.reduceAdd, Int.reduceSub, Int.reduceMul, Int.reduceEq, Int.reduceNeg, ↓reduceIte, reduceCtorEq]) <;> (repeat (refine (aw_draw (by kernel_rfl)).2 ?_; simp -dsimp (disch := first | omega | (simp only [List.length_cons, List.length_nil, List.length_map, List.length_append, List.length_take, List.length_drop, List.length_replicate, List.length_set, mkG_len] <;> omega) | fail) only [push_cast, if_pos, decide_eq_true, decide_eq_false, Nat.reduceAdd, Nat.reduceSub, Nat.reduceMul, Nat.reduceBEq, Nat.reduceEqDiff, Nat.reduceLT, Nat.reduceLeDiff, Int.reduceToNat, Int.reduceLE, Int.reduceLT, Int.reduceAdd, Int.reduceSub, Int.reduceMul, Int.reduceEq, Int.reduceNeg, ↓reduceIte, reduceCtorEq]))
  refine callC (searchStrings s.P n hl hp) ?_
  by_cases h : rk s.P n < s.P.length
  · obtain ⟨x, hx⟩ := ex_get h
    by_cases e : x = n
    · have hh : hasS s.P n = true := by unfold hasS; rw [hx, e]; simp
      (simp -dsimp (disch := first | omega | (simp only [hx, e, hh, List.length_cons, List.length_nil, List.length_map, List.length_append, List.length_take, List.length_drop, List.length_replicate, List.length_set, mkG_len] <;> omega) | fail) only [push_cast, if_pos, decide_eq_true, decide_eq_false, hx, e, hh, Nat.reduceAdd, Nat.reduceSub, Nat.reduceMul, Nat.reduceBEq, Nat.reduceEqDiff, Nat.reduceLT, Nat.reduceLeDiff, Int.reduceToNat, Int.reduceLE, Int.reduceLT, Int.reduceAdd, Int.reduceSub, Int.reduceMul, Int.reduceEq, Int.reduceNeg, ↓reduceIte, reduceCtorEq]) <;> (repeat (refine (aw_draw (by kernel_rfl)).2 ?_; simp -dsimp (disch := first | omega | (simp only [hx, e, hh, List.length_cons, List.length_nil, List.length_map, List.length_append, List.length_take, List.length_drop, List.length_replicate, List.length_set, mkG_len] <;> omega) | fail) only [push_cast, if_pos, decide_eq_true, decide_eq_false, hx, e, hh, Nat.reduceAdd, Nat.reduceSub, Nat.reduceMul, Nat.reduceBEq, Nat.reduceEqDiff, Nat.reduceLT, Nat.reduceLeDiff, Int.reduceToNat, Int.reduceLE, Int.reduceLT, Int.reduceAdd, Int.reduceSub, Int.reduceMul, Int.reduceEq, Int.reduceNeg, ↓reduceIte, reduceCtorEq]))
    · have hh : hasS s.P n = false := by unfold hasS; rw [hx]; simp [e]
      (simp -dsimp (disch := first | omega | (simp only [hx, e, hh, List.length_cons, List.length_nil, List.length_map, List.length_append, List.length_take, List.length_drop, List.length_replicate, List.length_set, mkG_len] <;> omega) | fail) only [push_cast, if_pos, decide_eq_true, decide_eq_false, hx, e, hh, Nat.reduceAdd, Nat.reduceSub, Nat.reduceMul, Nat.reduceBEq, Nat.reduceEqDiff, Nat.reduceLT, Nat.reduceLeDiff, Int.reduceToNat, Int.reduceLE, Int.reduceLT, Int.reduceAdd, Int.reduceSub, Int.reduceMul, Int.reduceEq, Int.reduceNeg, ↓reduceIte, reduceCtorEq]) <;> (repeat (refine (aw_draw (by kernel_rfl)).2 ?_; simp -dsimp (disch := first | omega | (simp only [hx, e, hh, List.length_cons, List.length_nil, List.length_map, List.length_append, List.length_take, List.length_drop, List.length_replicate, List.length_set, mkG_len] <;> omega) | fail) only [push_cast, if_pos, decide_eq_true, decide_eq_false, hx, e, hh, Nat.reduceAdd, Nat.reduceSub, Nat.reduceMul, Nat.reduceBEq, Nat.reduceEqDiff, Nat.reduceLT, Nat.reduceLeDiff, Int.reduceToNat, Int.reduceLE, Int.reduceLT, Int.reduceAdd, Int.reduceSub, Int.reduceMul, Int.reduceEq, Int.reduceNeg, ↓reduceIte, reduceCtorEq]))
  · have hh : hasS s.P n = false := by unfold hasS; rw [List.getElem?_eq_none (by omega)]; simp
    (simp -dsimp (disch := first | omega | (simp only [hh, List.length_cons, List.length_nil, List.length_map, List.length_append, List.length_take, List.length_drop, List.length_replicate, List.length_set, mkG_len] <;> omega) | fail) only [push_cast, if_pos, decide_eq_true, decide_eq_false, hh, Nat.reduceAdd, Nat.reduceSub, Nat.reduceMul, Nat.reduceBEq, Nat.reduceEqDiff, Nat.reduceLT, Nat.reduceLeDiff, Int.reduceToNat, Int.reduceLE, Int.reduceLT, Int.reduceAdd, Int.reduceSub, Int.reduceMul, Int.reduceEq, Int.reduceNeg, ↓reduceIte, reduceCtorEq]) <;> (repeat (refine (aw_draw (by kernel_rfl)).2 ?_; simp -dsimp (disch := first | omega | (simp only [hh, List.length_cons, List.length_nil, List.length_map, List.length_append, List.length_take, List.length_drop, List.length_replicate, List.length_set, mkG_len] <;> omega) | fail) only [push_cast, if_pos, decide_eq_true, decide_eq_false, hh, Nat.reduceAdd, Nat.reduceSub, Nat.reduceMul, Nat.reduceBEq, Nat.reduceEqDiff, Nat.reduceLT, Nat.reduceLeDiff, Int.reduceToNat, Int.reduceLE, Int.reduceLT, Int.reduceAdd, Int.reduceSub, Int.reduceMul, Int.reduceEq, Int.reduceNeg, ↓reduceIte, reduceCtorEq]))
end Go.Proofs.YtgkncgiglmdnaaaGreatDoor.Mx

/- NewFetch, of the program and of the reference. -/
namespace Go.Proofs.YtgkncgiglmdnaaaGreatDoor.Mx
set_option linter.all false
open Go Go.RowKit Go.Proofs
set_option linter.unusedSimpArgs false
def newRow : Row := [.sc (.int .i64 0), .sc (.int .i64 0), .sc (.int .i64 (-1)), .sc (.string ⟨#[]⟩), .sl true 1 []]
end Go.Proofs.YtgkncgiglmdnaaaGreatDoor.Mx

/- Fetches: valid. -/
namespace Go.Proofs.YtgkncgiglmdnaaaGreatDoor.Mx
set_option linter.all false
open Go Go.RowKit Go.Proofs
set_option linter.unusedSimpArgs false
theorem lts_irrefl (a : Str) : lts a a = false := by
  rw [lts_def]
  exact decide_eq_false (List.lt_irrefl _)
end Go.Proofs.YtgkncgiglmdnaaaGreatDoor.Mx

/- What is put into its place one by one, and what is ordered at the end. -/
namespace Go.Proofs.YtgkncgiglmdnaaaGreatDoor.Mx
set_option linter.all false
open Go Go.RowKit
attribute [local instance 100000] instBEqOfDecidableEq
theorem str_ext {a b : Str} (h : a.data.toList = b.data.toList) : a = b := by
  obtain ⟨a⟩ := a; obtain ⟨b⟩ := b
  simp at h; simp [h]
theorem lts_tri {a b : Str} (h : lts a b = false) (hn : a ≠ b) : lts b a = true := by
  rw [lts_def] at *
  apply decide_eq_true
  have h := of_decide_eq_false h
  apply Classical.byContradiction
  intro h2
  exact hn (str_ext (List.le_antisymm (List.not_lt.1 h2) (List.not_lt.1 h)))
abbrev Up1 (l : List Str) : Prop := l.Pairwise fun a b => lts a b = true
theorem addS_cons (y : Str) (r : List Str) (s : Str) : addS (y :: r) s = if lts y s = true then y :: addS r s else if y = s then y :: r else s :: y :: r := by
  unfold addS hasS
  rw [rk]
  cases h : lts y s with
  | true =>
    simp only [cond_true, List.getElem?_cons_succ, List.take_succ_cons, List.drop_succ_cons, if_true]
    cases decide (r[rk r s]? = some s) <;> rfl
  | false =>
    by_cases h2 : y = s <;> simp [h2]
theorem addS_ins : ∀ {l : List Str} (s : Str), Up1 l → (addS l s).Perm (ins l s)
  | [], s, _ => by simp [addS, hasS, rk, ins]
  | y :: r, s, h => by
    rw [addS_cons]
    replace h := List.pairwise_cons.1 h
    have ih := addS_ins (l := r) s h.2
    split
    · rename_i h1
      have hn : ¬ s = y := fun e => by rw [e, lts_irrefl] at h1; cases h1
      have : ins (y :: r) s = y :: ins r s := by unfold ins; by_cases q : s ∈ r <;> simp [q, hn]
      rw [this]; exact ih.cons y
    · rename_i h1
      split
      · rename_i h2
        subst h2
        have : ins (y :: r) y = y :: r := by simp [ins]
        rw [this]
      · rename_i h2
        have hl := lts_tri (by simpa using h1) h2
        have hr : s ∉ r := fun q => by
          have := lts_trans hl (h.1 s q)
          rw [lts_irrefl] at this; cases this
        have : ins (y :: r) s = (y :: r) ++ [s] := by
          have h3 : ¬ s = y := fun e => h2 e.symm
          simp [ins, hr, h3]
        rw [this]
        exact (List.perm_append_singleton s (y :: r)).symm
theorem addS_up : ∀ {l : List Str} (s : Str), Up1 l → Up1 (addS l s)
  | [], s, _ => by simp [addS, hasS, rk]
  | y :: r, s, h => by
    rw [addS_cons]
    have h' := h
    replace h := List.pairwise_cons.1 h
    have ih := addS_up (l := r) s h.2
    split
    · rename_i h1
      refine List.pairwise_cons.2 ⟨fun x hx => ?_, ih⟩
      rcases ins_mem.1 ((addS_ins s h.2).mem_iff.1 hx) with q | q
      · exact h.1 x q
      · rw [q]; exact h1
    · rename_i h1
      split
      · exact h'
      · rename_i h2
        have hl := lts_tri (by simpa using h1) h2
        refine List.pairwise_cons.2 ⟨fun x hx => ?_, h'⟩
        rcases List.mem_cons.1 hx with q | q
        · rw [q]; exact hl
        · exact lts_trans hl (h.1 x q)
theorem ins_perm {l m : List Str} (h : l.Perm m) (s : Str) : (ins l s).Perm (ins m s) := by
  unfold ins
  by_cases hs : s ∈ l
  · rw [if_pos hs, if_pos (h.mem_iff.1 hs)]; exact h
  · rw [if_neg hs, if_neg fun q => hs (h.mem_iff.2 q)]; exact h.append_right _
theorem fold_ins : ∀ (L A I : List Str), Up1 A → A.Perm I → Up1 (L.foldl addS A) ∧ (L.foldl addS A).Perm (insL I L)
  | [], _, _, h, hp => ⟨h, hp⟩
  | s :: r, A, I, h, hp => fold_ins r (addS A s) (ins I s) (addS_up s h) ((addS_ins s h).trans (ins_perm hp s))
theorem srt_up {l : List Str} (h : Up1 l) : srt l = l := by
  unfold srt srtB
  rw [List.mergeSort_of_pairwise, List.map_map]
  · conv => rhs; rw [← List.map_id l]
    apply List.map_congr_left
    intro x _
    rfl
  · rw [List.pairwise_map]
    exact h.imp fun {a b} hab => by
      rw [lts_def] at hab
      exact decide_eq_true (List.le_of_lt (of_decide_eq_true hab))
/-- both roads lead «to» one list -/
theorem srt_ins (L : List Str) : srt (insL [] L) = L.foldl addS [] := by
  have := fold_ins L [] [] List.Pairwise.nil (List.Perm.refl _)
  rw [← srt_perm this.2, srt_up this.1]
end Go.Proofs.YtgkncgiglmdnaaaGreatDoor.Mx

/- Names that a store needs: pure. -/
namespace Go.Proofs.YtgkncgiglmdnaaaGreatDoor.Mx
set_option linter.all false
open Go Go.RowKit
theorem list_false {s : Store} {n : Str} (h : (listF s n).2 = false) : (listF s n).1 = ⟨0, []⟩ := by
  unfold listF at h ⊢
  split
  · rfl
  · rename_i h1
    rw [if_neg h1] at h
    split
    · rename_i x hx
      rw [hx] at h
      exact read_fst h
    · rfl
noncomputable def nmsF (s : Store) (p : Str) : List Str := p :: (listF s p).1.S
noncomputable def nmsL (s : Store) : List Str := s.P.flatMap (nmsF s)
noncomputable def needF (s : Store) : List Str := if validSt s = false then [] else (nmsL s).foldl addS []
theorem nms_step {s : Store} {i : Nat} {p : Str} (h : s.P[i]? = some p) : (s.P.take (i + 1)).flatMap (nmsF s) = (s.P.take i).flatMap (nmsF s) ++ nmsF s p := by
  rw [take_step h, List.flatMap_append, List.flatMap_singleton]
theorem addS_len1 (l : List Str) (s : Str) : (addS l s).length ≤ l.length + 1 := by
  unfold addS; cases hasS l s <;> simp <;> omega
theorem foldS_len : ∀ (L A : List Str), (L.foldl addS A).length ≤ A.length + L.length
  | [], A => Nat.le_refl _
  | x :: r, A => by
    rw [List.foldl_cons]
    have := foldS_len r (addS A x)
    have := addS_len1 A x
    rw [List.length_cons]; omega
theorem nms_len (s : Store) : ∀ (P : List Str), (P.flatMap (nmsF s)).length ≤ 376 * P.length
  | [] => by simp
  | p :: r => by
    have h1 := nms_len s r
    have h2 := (list_ok (s := s) (n := p)).1
    have h3 : (nmsF s p).length = 1 + (listF s p).1.S.length := by unfold nmsF; rw [List.length_cons]; omega
    rw [List.flatMap_cons, List.length_append, List.length_cons, h3]
    omega
end Go.Proofs.YtgkncgiglmdnaaaGreatDoor.Mx

/- Lists' forms. -/
namespace Go.Proofs.YtgkncgiglmdnaaaGreatDoor.Mx
set_option linter.all false
open Go Go.RowKit Go.Proofs
set_option linter.unusedSimpArgs false
theorem inB_and (a b c : Int) : inB a b c = (decide (b ≤ a) && decide (a ≤ c)) := by
  unfold inB; by_cases h : b ≤ a <;> by_cases h2 : a ≤ c <;> simp [h, h2]
def E73 : Env := { T := T0, kp := look [(0, [0, 1]), (1, [1, 2]), (2, []), (3, [1, 2]), (4, [1, 27, 28, 29]), (5, [1, 27, 28, 29]), (6, [1, 6, 27, 28, 29]), (7, []), (8, [1, 27, 28, 29]), (9, [])] }
attribute [local push_cast] E73
set_option maxRecDepth 20000 in
set_option maxHeartbeats 1000000 in
theorem listOk (l : Lst) (w : Int) (hl : l.S.length ≤ 2097152) : Does Tryz.prog 73 [.ag (lstC false l), .sc (.int .i64 w)] (.sc (.bool (okLs l w)), []) := by
  refine does_of (E := E73) (rs := [.tmp 4]) (lent := []) tOk rfl Tryz.func73 rfl (by decide) rfl rfl (Nat.le_of_ble_eq_true rfl) (Nat.le_of_ble_eq_true rfl) ?_
  obtain ⟨M, hM⟩ : ∃ M, M = okLs l w := ⟨_, rfl⟩
  rw [← hM]
  unfold okLs at hM
  (simp -dsimp (disch := first | omega | (simp only [List.length_cons, List.length_nil, List.length_map, List.length_append, List.length_take, List.length_drop, List.length_replicate, List.length_set, mkG_len] <;> omega) | fail) only [push_cast, if_pos, decide_eq_true, decide_eq_false, Nat.reduceAdd, Nat.reduceSub, Nat.reduceMul, Nat.reduceBEq, Nat.reduceEqDiff, Nat.reduceLT, Nat.reduceLeDiff, Int.reduceToNat, Int.reduceLE, Int.reduceLT, Int.reduceAdd, Int.reduceSub, Int.reduceMul, Int.reduceEq, Int.reduceNeg, ↓reduceIte, reduceCtorEq]) <;> (repeat (refine (aw_draw (by kernel_rfl)).2 ?_; simp -dsimp (disch := first | omega | (simp only [List.length_cons, List.length_nil, List.length_map, List.length_append, List.length_take, List.length_drop, List.length_replicate, List.length_set, mkG_len] <;> omega) | fail) only [push_cast, if_pos, decide_eq_true, decide_eq_false, Nat.reduceAdd, Nat.reduceSub, Nat.reduceMul, Nat.reduceBEq, Nat.reduceEqDiff, Nat.reduceLT, Nat.reduceLeDiff, Int.reduceToNat, Int.reduceLE, Int.reduceLT, Int.reduceAdd, Int.reduceSub, Int.reduceMul, Int.reduceEq, Int.reduceNeg, ↓reduceIte, reduceCtorEq]))
  refine callC (widthOk ..) ?_
  by_cases c1 : inB w 1 8 = true
  rotate_left
  · have hv : M = false := by rw [hM]; simp [c1]
    (simp -dsimp (disch := first | omega | (simp only [c1, hv, List.length_cons, List.length_nil, List.length_map, List.length_append, List.length_take, List.length_drop, List.length_replicate, List.length_set, mkG_len] <;> omega) | fail) only [push_cast, if_pos, decide_eq_true, decide_eq_false, c1, hv, Nat.reduceAdd, Nat.reduceSub, Nat.reduceMul, Nat.reduceBEq, Nat.reduceEqDiff, Nat.reduceLT, Nat.reduceLeDiff, Int.reduceToNat, Int.reduceLE, Int.reduceLT, Int.reduceAdd, Int.reduceSub, Int.reduceMul, Int.reduceEq, Int.reduceNeg, ↓reduceIte, reduceCtorEq]) <;> (repeat (refine (aw_draw (by kernel_rfl)).2 ?_; simp -dsimp (disch := first | omega | (simp only [c1, hv, List.length_cons, List.length_nil, List.length_map, List.length_append, List.length_take, List.length_drop, List.length_replicate, List.length_set, mkG_len] <;> omega) | fail) only [push_cast, if_pos, decide_eq_true, decide_eq_false, c1, hv, Nat.reduceAdd, Nat.reduceSub, Nat.reduceMul, Nat.reduceBEq, Nat.reduceEqDiff, Nat.reduceLT, Nat.reduceLeDiff, Int.reduceToNat, Int.reduceLE, Int.reduceLT, Int.reduceAdd, Int.reduceSub, Int.reduceMul, Int.reduceEq, Int.reduceNeg, ↓reduceIte, reduceCtorEq]))
  by_cases c2 : 0 ≤ l.sz
  rotate_left
  · have hv : M = false := by rw [hM]; simp [inB_and l.sz, c2]
    (simp -dsimp (disch := first | omega | (simp only [c1, hv, List.length_cons, List.length_nil, List.length_map, List.length_append, List.length_take, List.length_drop, List.length_replicate, List.length_set, mkG_len] <;> omega) | fail) only [push_cast, if_pos, decide_eq_true, decide_eq_false, c1, hv, Nat.reduceAdd, Nat.reduceSub, Nat.reduceMul, Nat.reduceBEq, Nat.reduceEqDiff, Nat.reduceLT, Nat.reduceLeDiff, Int.reduceToNat, Int.reduceLE, Int.reduceLT, Int.reduceAdd, Int.reduceSub, Int.reduceMul, Int.reduceEq, Int.reduceNeg, ↓reduceIte, reduceCtorEq]) <;> (repeat (refine (aw_draw (by kernel_rfl)).2 ?_; simp -dsimp (disch := first | omega | (simp only [c1, hv, List.length_cons, List.length_nil, List.length_map, List.length_append, List.length_take, List.length_drop, List.length_replicate, List.length_set, mkG_len] <;> omega) | fail) only [push_cast, if_pos, decide_eq_true, decide_eq_false, c1, hv, Nat.reduceAdd, Nat.reduceSub, Nat.reduceMul, Nat.reduceBEq, Nat.reduceEqDiff, Nat.reduceLT, Nat.reduceLeDiff, Int.reduceToNat, Int.reduceLE, Int.reduceLT, Int.reduceAdd, Int.reduceSub, Int.reduceMul, Int.reduceEq, Int.reduceNeg, ↓reduceIte, reduceCtorEq]))
  by_cases c3 : l.sz ≤ 3000
  rotate_left
  · have hv : M = false := by rw [hM]; simp [inB_and l.sz, c3]
    (simp -dsimp (disch := first | omega | (simp only [c1, hv, List.length_cons, List.length_nil, List.length_map, List.length_append, List.length_take, List.length_drop, List.length_replicate, List.length_set, mkG_len] <;> omega) | fail) only [push_cast, if_pos, decide_eq_true, decide_eq_false, c1, hv, Nat.reduceAdd, Nat.reduceSub, Nat.reduceMul, Nat.reduceBEq, Nat.reduceEqDiff, Nat.reduceLT, Nat.reduceLeDiff, Int.reduceToNat, Int.reduceLE, Int.reduceLT, Int.reduceAdd, Int.reduceSub, Int.reduceMul, Int.reduceEq, Int.reduceNeg, ↓reduceIte, reduceCtorEq]) <;> (repeat (refine (aw_draw (by kernel_rfl)).2 ?_; simp -dsimp (disch := first | omega | (simp only [c1, hv, List.length_cons, List.length_nil, List.length_map, List.length_append, List.length_take, List.length_drop, List.length_replicate, List.length_set, mkG_len] <;> omega) | fail) only [push_cast, if_pos, decide_eq_true, decide_eq_false, c1, hv, Nat.reduceAdd, Nat.reduceSub, Nat.reduceMul, Nat.reduceBEq, Nat.reduceEqDiff, Nat.reduceLT, Nat.reduceLeDiff, Int.reduceToNat, Int.reduceLE, Int.reduceLT, Int.reduceAdd, Int.reduceSub, Int.reduceMul, Int.reduceEq, Int.reduceNeg, ↓reduceIte, reduceCtorEq]))
  by_cases c4 : l.S.length ≤ 375
  rotate_left
  · have hv : M = false := by rw [hM]; simp [c4]
    (simp -dsimp (disch := first | omega | (simp only [c1, hv, List.length_cons, List.length_nil, List.length_map, List.length_append, List.length_take, List.length_drop, List.length_replicate, List.length_set, mkG_len] <;> omega) | fail) only [push_cast, if_pos, decide_eq_true, decide_eq_false, c1, hv, Nat.reduceAdd, Nat.reduceSub, Nat.reduceMul, Nat.reduceBEq, Nat.reduceEqDiff, Nat.reduceLT, Nat.reduceLeDiff, Int.reduceToNat, Int.reduceLE, Int.reduceLT, Int.reduceAdd, Int.reduceSub, Int.reduceMul, Int.reduceEq, Int.reduceNeg, ↓reduceIte, reduceCtorEq]) <;> (repeat (refine (aw_draw (by kernel_rfl)).2 ?_; simp -dsimp (disch := first | omega | (simp only [c1, hv, List.length_cons, List.length_nil, List.length_map, List.length_append, List.length_take, List.length_drop, List.length_replicate, List.length_set, mkG_len] <;> omega) | fail) only [push_cast, if_pos, decide_eq_true, decide_eq_false, c1, hv, Nat.reduceAdd, Nat.reduceSub, Nat.reduceMul, Nat.reduceBEq, Nat.reduceEqDiff, Nat.reduceLT, Nat.reduceLeDiff, Int.reduceToNat, Int.reduceLE, Int.reduceLT, Int.reduceAdd, Int.reduceSub, Int.reduceMul, Int.reduceEq, Int.reduceNeg, ↓reduceIte, reduceCtorEq]))
  have hM : (l.S.all fun s => decide ((s.size : Int) = w)) = M := by rw [hM]; simp [inB_and l.sz, c1, c2, c3, c4]
  (simp -dsimp (disch := first | omega | (simp only [c1, List.length_cons, List.length_nil, List.length_map, List.length_append, List.length_take, List.length_drop, List.length_replicate, List.length_set, mkG_len] <;> omega) | fail) only [push_cast, if_pos, decide_eq_true, decide_eq_false, c1, Nat.reduceAdd, Nat.reduceSub, Nat.reduceMul, Nat.reduceBEq, Nat.reduceEqDiff, Nat.reduceLT, Nat.reduceLeDiff, Int.reduceToNat, Int.reduceLE, Int.reduceLT, Int.reduceAdd, Int.reduceSub, Int.reduceMul, Int.reduceEq, Int.reduceNeg, ↓reduceIte, reduceCtorEq]) <;> (repeat (refine (aw_draw (by kernel_rfl)).2 ?_; simp -dsimp (disch := first | omega | (simp only [c1, List.length_cons, List.length_nil, List.length_map, List.length_append, List.length_take, List.length_drop, List.length_replicate, List.length_set, mkG_len] <;> omega) | fail) only [push_cast, if_pos, decide_eq_true, decide_eq_false, c1, Nat.reduceAdd, Nat.reduceSub, Nat.reduceMul, Nat.reduceBEq, Nat.reduceEqDiff, Nat.reduceLT, Nat.reduceLeDiff, Int.reduceToNat, Int.reduceLE, Int.reduceLT, Int.reduceAdd, Int.reduceSub, Int.reduceMul, Int.reduceEq, Int.reduceNeg, ↓reduceIte, reduceCtorEq]))
  refine loop_ind (α := Nat) (fun i => i ≤ l.S.length ∧ ((l.S.drop i).all fun s => decide ((s.size : Int) = w)) = M)
    (fun i => ⟨[(1, .sc (.int .i64 w)), (27, .sl false 1 (l.S.map strR)), (28, .sc (.int .i64 l.S.length)), (29, .sc (.int .i64 i))], [], 1⟩) (fun i => l.S.length - i) 0 ⟨Nat.zero_le _, hM⟩ ?_ ?_
  · simp -dsimp (disch := first | omega | (simp only [List.length_cons, List.length_nil, List.length_map, List.length_append, List.length_take, List.length_drop, List.length_replicate, List.length_set, mkG_len] <;> omega) | fail) only [push_cast, if_pos, decide_eq_true, decide_eq_false, Nat.reduceAdd, Nat.reduceSub, Nat.reduceMul, Nat.reduceBEq, Nat.reduceEqDiff, Nat.reduceLT, Nat.reduceLeDiff, Int.reduceToNat, Int.reduceLE, Int.reduceLT, Int.reduceAdd, Int.reduceSub, Int.reduceMul, Int.reduceEq, Int.reduceNeg, ↓reduceIte, reduceCtorEq]
  rintro i ⟨hi, hy⟩ ih
  by_cases h : i < l.S.length
  · obtain ⟨x, hx⟩ := ex_get h
    rw [drop_step hx, List.all_cons] at hy
    by_cases e : (x.size : Int) = w
    · (simp -dsimp (disch := first | omega | (simp only [hx, e, List.length_cons, List.length_nil, List.length_map, List.length_append, List.length_take, List.length_drop, List.length_replicate, List.length_set, mkG_len] <;> omega) | fail) only [push_cast, if_pos, decide_eq_true, decide_eq_false, hx, e, Nat.reduceAdd, Nat.reduceSub, Nat.reduceMul, Nat.reduceBEq, Nat.reduceEqDiff, Nat.reduceLT, Nat.reduceLeDiff, Int.reduceToNat, Int.reduceLE, Int.reduceLT, Int.reduceAdd, Int.reduceSub, Int.reduceMul, Int.reduceEq, Int.reduceNeg, ↓reduceIte, reduceCtorEq]) <;> (repeat (refine (aw_draw (by kernel_rfl)).2 ?_; simp -dsimp (disch := first | omega | (simp only [hx, e, List.length_cons, List.length_nil, List.length_map, List.length_append, List.length_take, List.length_drop, List.length_replicate, List.length_set, mkG_len] <;> omega) | fail) only [push_cast, if_pos, decide_eq_true, decide_eq_false, hx, e, Nat.reduceAdd, Nat.reduceSub, Nat.reduceMul, Nat.reduceBEq, Nat.reduceEqDiff, Nat.reduceLT, Nat.reduceLeDiff, Int.reduceToNat, Int.reduceLE, Int.reduceLT, Int.reduceAdd, Int.reduceSub, Int.reduceMul, Int.reduceEq, Int.reduceNeg, ↓reduceIte, reduceCtorEq]))
      refine ih (i + 1) _ (by omega) ⟨h, by rw [← hy]; simp [e]⟩ ?_
      simp -dsimp (disch := first | omega | (simp only [wr_id, List.length_cons, List.length_nil, List.length_map, List.length_append, List.length_take, List.length_drop, List.length_replicate, List.length_set, mkG_len] <;> omega) | fail) only [push_cast, if_pos, decide_eq_true, decide_eq_false, wr_id, Nat.reduceAdd, Nat.reduceSub, Nat.reduceMul, Nat.reduceBEq, Nat.reduceEqDiff, Nat.reduceLT, Nat.reduceLeDiff, Int.reduceToNat, Int.reduceLE, Int.reduceLT, Int.reduceAdd, Int.reduceSub, Int.reduceMul, Int.reduceEq, Int.reduceNeg, ↓reduceIte, reduceCtorEq]
    · have hy : false = M := by rw [← hy]; simp [e]
      (simp -dsimp (disch := first | omega | (simp only [hx, e, ← hy, List.length_cons, List.length_nil, List.length_map, List.length_append, List.length_take, List.length_drop, List.length_replicate, List.length_set, mkG_len] <;> omega) | fail) only [push_cast, if_pos, decide_eq_true, decide_eq_false, hx, e, ← hy, Nat.reduceAdd, Nat.reduceSub, Nat.reduceMul, Nat.reduceBEq, Nat.reduceEqDiff, Nat.reduceLT, Nat.reduceLeDiff, Int.reduceToNat, Int.reduceLE, Int.reduceLT, Int.reduceAdd, Int.reduceSub, Int.reduceMul, Int.reduceEq, Int.reduceNeg, ↓reduceIte, reduceCtorEq]) <;> (repeat (refine (aw_draw (by kernel_rfl)).2 ?_; simp -dsimp (disch := first | omega | (simp only [hx, e, ← hy, List.length_cons, List.length_nil, List.length_map, List.length_append, List.length_take, List.length_drop, List.length_replicate, List.length_set, mkG_len] <;> omega) | fail) only [push_cast, if_pos, decide_eq_true, decide_eq_false, hx, e, ← hy, Nat.reduceAdd, Nat.reduceSub, Nat.reduceMul, Nat.reduceBEq, Nat.reduceEqDiff, Nat.reduceLT, Nat.reduceLeDiff, Int.reduceToNat, Int.reduceLE, Int.reduceLT, Int.reduceAdd, Int.reduceSub, Int.reduceMul, Int.reduceEq, Int.reduceNeg, ↓reduceIte, reduceCtorEq]))
  · rw [List.drop_eq_nil_of_le (by omega)] at hy
    have hy : true = M := by rw [← hy]; rfl
    (simp -dsimp (disch := first | omega | (simp only [← hy, List.length_cons, List.length_nil, List.length_map, List.length_append, List.length_take, List.length_drop, List.length_replicate, List.length_set, mkG_len] <;> omega) | fail) only [push_cast, if_pos, decide_eq_true, decide_eq_false, ← hy, Nat.reduceAdd, Nat.reduceSub, Nat.reduceMul, Nat.reduceBEq, Nat.reduceEqDiff, Nat.reduceLT, Nat.reduceLeDiff, Int.reduceToNat, Int.reduceLE, Int.reduceLT, Int.reduceAdd, Int.reduceSub, Int.reduceMul, Int.reduceEq, Int.reduceNeg, ↓reduceIte, reduceCtorEq]) <;> (repeat (refine (aw_draw (by kernel_rfl)).2 ?_; simp -dsimp (disch := first | omega | (simp only [← hy, List.length_cons, List.length_nil, List.length_map, List.length_append, List.length_take, List.length_drop, List.length_replicate, List.length_set, mkG_len] <;> omega) | fail) only [push_cast, if_pos, decide_eq_true, decide_eq_false, ← hy, Nat.reduceAdd, Nat.reduceSub, Nat.reduceMul, Nat.reduceBEq, Nat.reduceEqDiff, Nat.reduceLT, Nat.reduceLeDiff, Int.reduceToNat, Int.reduceLE, Int.reduceLT, Int.reduceAdd, Int.reduceSub, Int.reduceMul, Int.reduceEq, Int.reduceNeg, ↓reduceIte, reduceCtorEq]))
def E80 : Env := { T := T0, kp := look [(0, [0, 1]), (1, [1, 2]), (2, []), (3, [1, 2]), (4, [1, 2, 5]), (5, [1, 2, 5]), (6, [1, 2, 5]), (7, []), (8, [])] }
attribute [local push_cast] E80
set_option maxRecDepth 20000 in
set_option maxHeartbeats 1000000 in
theorem l3Ok (l : Lst) (w : Int) (hl : l.S.length ≤ 2097152) : Does Tryz.prog 80 [.ag (lstC false l), .sc (.int .i64 w)] (.sc (.bool (okLs l w)), []) := by
  refine does_of (E := E80) (rs := [.tmp 4]) (lent := []) tOk rfl Tryz.func80 rfl (by decide) rfl rfl (Nat.le_of_ble_eq_true rfl) (Nat.le_of_ble_eq_true rfl) ?_
  obtain ⟨M, hM⟩ : ∃ M, M = okLs l w := ⟨_, rfl⟩
  rw [← hM]
  unfold okLs at hM
  (simp -dsimp (disch := first | omega | (simp only [List.length_cons, List.length_nil, List.length_map, List.length_append, List.length_take, List.length_drop, List.length_replicate, List.length_set, mkG_len] <;> omega) | fail) only [push_cast, if_pos, decide_eq_true, decide_eq_false, Nat.reduceAdd, Nat.reduceSub, Nat.reduceMul, Nat.reduceBEq, Nat.reduceEqDiff, Nat.reduceLT, Nat.reduceLeDiff, Int.reduceToNat, Int.reduceLE, Int.reduceLT, Int.reduceAdd, Int.reduceSub, Int.reduceMul, Int.reduceEq, Int.reduceNeg, ↓reduceIte, reduceCtorEq]) <;> (repeat (refine (aw_draw (by kernel_rfl)).2 ?_; simp -dsimp (disch := first | omega | (simp only [List.length_cons, List.length_nil, List.length_map, List.length_append, List.length_take, List.length_drop, List.length_replicate, List.length_set, mkG_len] <;> omega) | fail) only [push_cast, if_pos, decide_eq_true, decide_eq_false, Nat.reduceAdd, Nat.reduceSub, Nat.reduceMul, Nat.reduceBEq, Nat.reduceEqDiff, Nat.reduceLT, Nat.reduceLeDiff, Int.reduceToNat, Int.reduceLE, Int.reduceLT, Int.reduceAdd, Int.reduceSub, Int.reduceMul, Int.reduceEq, Int.reduceNeg, ↓reduceIte, reduceCtorEq]))
  refine callC (l1Width ..) ?_
  by_cases c1 : inB w 1 8 = true
  rotate_left
  · have hv : M = false := by rw [hM]; simp [c1]
    (simp -dsimp (disch := first | omega | (simp only [c1, hv, List.length_cons, List.length_nil, List.length_map, List.length_append, List.length_take, List.length_drop, List.length_replicate, List.length_set, mkG_len] <;> omega) | fail) only [push_cast, if_pos, decide_eq_true, decide_eq_false, c1, hv, Nat.reduceAdd, Nat.reduceSub, Nat.reduceMul, Nat.reduceBEq, Nat.reduceEqDiff, Nat.reduceLT, Nat.reduceLeDiff, Int.reduceToNat, Int.reduceLE, Int.reduceLT, Int.reduceAdd, Int.reduceSub, Int.reduceMul, Int.reduceEq, Int.reduceNeg, ↓reduceIte, reduceCtorEq]) <;> (repeat (refine (aw_draw (by kernel_rfl)).2 ?_; simp -dsimp (disch := first | omega | (simp only [c1, hv, List.length_cons, List.length_nil, List.length_map, List.length_append, List.length_take, List.length_drop, List.length_replicate, List.length_set, mkG_len] <;> omega) | fail) only [push_cast, if_pos, decide_eq_true, decide_eq_false, c1, hv, Nat.reduceAdd, Nat.reduceSub, Nat.reduceMul, Nat.reduceBEq, Nat.reduceEqDiff, Nat.reduceLT, Nat.reduceLeDiff, Int.reduceToNat, Int.reduceLE, Int.reduceLT, Int.reduceAdd, Int.reduceSub, Int.reduceMul, Int.reduceEq, Int.reduceNeg, ↓reduceIte, reduceCtorEq]))
  (simp -dsimp (disch := first | omega | (simp only [c1, List.length_cons, List.length_nil, List.length_map, List.length_append, List.length_take, List.length_drop, List.length_replicate, List.length_set, mkG_len] <;> omega) | fail) only [push_cast, if_pos, decide_eq_true, decide_eq_false, c1, Nat.reduceAdd, Nat.reduceSub, Nat.reduceMul, Nat.reduceBEq, Nat.reduceEqDiff, Nat.reduceLT, Nat.reduceLeDiff, Int.reduceToNat, Int.reduceLE, Int.reduceLT, Int.reduceAdd, Int.reduceSub, Int.reduceMul, Int.reduceEq, Int.reduceNeg, ↓reduceIte, reduceCtorEq]) <;> (repeat (refine (aw_draw (by kernel_rfl)).2 ?_; simp -dsimp (disch := first | omega | (simp only [c1, List.length_cons, List.length_nil, List.length_map, List.length_append, List.length_take, List.length_drop, List.length_replicate, List.length_set, mkG_len] <;> omega) | fail) only [push_cast, if_pos, decide_eq_true, decide_eq_false, c1, Nat.reduceAdd, Nat.reduceSub, Nat.reduceMul, Nat.reduceBEq, Nat.reduceEqDiff, Nat.reduceLT, Nat.reduceLeDiff, Int.reduceToNat, Int.reduceLE, Int.reduceLT, Int.reduceAdd, Int.reduceSub, Int.reduceMul, Int.reduceEq, Int.reduceNeg, ↓reduceIte, reduceCtorEq]))
  refine callC (l1In ..) ?_
  by_cases c2 : inB l.sz 0 3000 = true
  rotate_left
  · have hv : M = false := by rw [hM]; simp [c2]
    (simp -dsimp (disch := first | omega | (simp only [c2, hv, List.length_cons, List.length_nil, List.length_map, List.length_append, List.length_take, List.length_drop, List.length_replicate, List.length_set, mkG_len] <;> omega) | fail) only [push_cast, if_pos, decide_eq_true, decide_eq_false, c2, hv, Nat.reduceAdd, Nat.reduceSub, Nat.reduceMul, Nat.reduceBEq, Nat.reduceEqDiff, Nat.reduceLT, Nat.reduceLeDiff, Int.reduceToNat, Int.reduceLE, Int.reduceLT, Int.reduceAdd, Int.reduceSub, Int.reduceMul, Int.reduceEq, Int.reduceNeg, ↓reduceIte, reduceCtorEq]) <;> (repeat (refine (aw_draw (by kernel_rfl)).2 ?_; simp -dsimp (disch := first | omega | (simp only [c2, hv, List.length_cons, List.length_nil, List.length_map, List.length_append, List.length_take, List.length_drop, List.length_replicate, List.length_set, mkG_len] <;> omega) | fail) only [push_cast, if_pos, decide_eq_true, decide_eq_false, c2, hv, Nat.reduceAdd, Nat.reduceSub, Nat.reduceMul, Nat.reduceBEq, Nat.reduceEqDiff, Nat.reduceLT, Nat.reduceLeDiff, Int.reduceToNat, Int.reduceLE, Int.reduceLT, Int.reduceAdd, Int.reduceSub, Int.reduceMul, Int.reduceEq, Int.reduceNeg, ↓reduceIte, reduceCtorEq]))
  by_cases c4 : l.S.length ≤ 375
  rotate_left
  · have hv : M = false := by rw [hM]; simp [c4]
    (simp -dsimp (disch := first | omega | (simp only [c2, hv, List.length_cons, List.length_nil, List.length_map, List.length_append, List.length_take, List.length_drop, List.length_replicate, List.length_set, mkG_len] <;> omega) | fail) only [push_cast, if_pos, decide_eq_true, decide_eq_false, c2, hv, Nat.reduceAdd, Nat.reduceSub, Nat.reduceMul, Nat.reduceBEq, Nat.reduceEqDiff, Nat.reduceLT, Nat.reduceLeDiff, Int.reduceToNat, Int.reduceLE, Int.reduceLT, Int.reduceAdd, Int.reduceSub, Int.reduceMul, Int.reduceEq, Int.reduceNeg, ↓reduceIte, reduceCtorEq]) <;> (repeat (refine (aw_draw (by kernel_rfl)).2 ?_; simp -dsimp (disch := first | omega | (simp only [c2, hv, List.length_cons, List.length_nil, List.length_map, List.length_append, List.length_take, List.length_drop, List.length_replicate, List.length_set, mkG_len] <;> omega) | fail) only [push_cast, if_pos, decide_eq_true, decide_eq_false, c2, hv, Nat.reduceAdd, Nat.reduceSub, Nat.reduceMul, Nat.reduceBEq, Nat.reduceEqDiff, Nat.reduceLT, Nat.reduceLeDiff, Int.reduceToNat, Int.reduceLE, Int.reduceLT, Int.reduceAdd, Int.reduceSub, Int.reduceMul, Int.reduceEq, Int.reduceNeg, ↓reduceIte, reduceCtorEq]))
  have hM : (l.S.all fun s => decide ((s.size : Int) = w)) = M := by rw [hM]; simp [c1, c2, c4]
  (simp -dsimp (disch := first | omega | (simp only [c2, List.length_cons, List.length_nil, List.length_map, List.length_append, List.length_take, List.length_drop, List.length_replicate, List.length_set, mkG_len] <;> omega) | fail) only [push_cast, if_pos, decide_eq_true, decide_eq_false, c2, Nat.reduceAdd, Nat.reduceSub, Nat.reduceMul, Nat.reduceBEq, Nat.reduceEqDiff, Nat.reduceLT, Nat.reduceLeDiff, Int.reduceToNat, Int.reduceLE, Int.reduceLT, Int.reduceAdd, Int.reduceSub, Int.reduceMul, Int.reduceEq, Int.reduceNeg, ↓reduceIte, reduceCtorEq]) <;> (repeat (refine (aw_draw (by kernel_rfl)).2 ?_; simp -dsimp (disch := first | omega | (simp only [c2, List.length_cons, List.length_nil, List.length_map, List.length_append, List.length_take, List.length_drop, List.length_replicate, List.length_set, mkG_len] <;> omega) | fail) only [push_cast, if_pos, decide_eq_true, decide_eq_false, c2, Nat.reduceAdd, Nat.reduceSub, Nat.reduceMul, Nat.reduceBEq, Nat.reduceEqDiff, Nat.reduceLT, Nat.reduceLeDiff, Int.reduceToNat, Int.reduceLE, Int.reduceLT, Int.reduceAdd, Int.reduceSub, Int.reduceMul, Int.reduceEq, Int.reduceNeg, ↓reduceIte, reduceCtorEq]))
  refine loop_ind (α := Nat) (fun i => i ≤ l.S.length ∧ ((l.S.drop i).all fun s => decide ((s.size : Int) = w)) = M)
    (fun i => ⟨[(1, .sc (.int .i64 w)), (2, .pt 1 0 0), (5, .sc (.int .i64 i))], [(1, .bx (lstC false l))], 2⟩) (fun i => l.S.length - i) 0 ⟨Nat.zero_le _, hM⟩ ?_ ?_
  · simp -dsimp (disch := first | omega | (simp only [List.length_cons, List.length_nil, List.length_map, List.length_append, List.length_take, List.length_drop, List.length_replicate, List.length_set, mkG_len] <;> omega) | fail) only [push_cast, if_pos, decide_eq_true, decide_eq_false, Nat.reduceAdd, Nat.reduceSub, Nat.reduceMul, Nat.reduceBEq, Nat.reduceEqDiff, Nat.reduceLT, Nat.reduceLeDiff, Int.reduceToNat, Int.reduceLE, Int.reduceLT, Int.reduceAdd, Int.reduceSub, Int.reduceMul, Int.reduceEq, Int.reduceNeg, ↓reduceIte, reduceCtorEq]
  rintro i ⟨hi, hy⟩ ih
  by_cases h : i < l.S.length
  · obtain ⟨x, hx⟩ := ex_get h
    rw [drop_step hx, List.all_cons] at hy
    by_cases e : (x.size : Int) = w
    · (simp -dsimp (disch := first | omega | (simp only [hx, e, List.length_cons, List.length_nil, List.length_map, List.length_append, List.length_take, List.length_drop, List.length_replicate, List.length_set, mkG_len] <;> omega) | fail) only [push_cast, if_pos, decide_eq_true, decide_eq_false, hx, e, Nat.reduceAdd, Nat.reduceSub, Nat.reduceMul, Nat.reduceBEq, Nat.reduceEqDiff, Nat.reduceLT, Nat.reduceLeDiff, Int.reduceToNat, Int.reduceLE, Int.reduceLT, Int.reduceAdd, Int.reduceSub, Int.reduceMul, Int.reduceEq, Int.reduceNeg, ↓reduceIte, reduceCtorEq]) <;> (repeat (refine (aw_draw (by kernel_rfl)).2 ?_; simp -dsimp (disch := first | omega | (simp only [hx, e, List.length_cons, List.length_nil, List.length_map, List.length_append, List.length_take, List.length_drop, List.length_replicate, List.length_set, mkG_len] <;> omega) | fail) only [push_cast, if_pos, decide_eq_true, decide_eq_false, hx, e, Nat.reduceAdd, Nat.reduceSub, Nat.reduceMul, Nat.reduceBEq, Nat.reduceEqDiff, Nat.reduceLT, Nat.reduceLeDiff, Int.reduceToNat, Int.reduceLE, Int.reduceLT, Int.reduceAdd, Int.reduceSub, Int.reduceMul, Int.reduceEq, Int.reduceNeg, ↓reduceIte, reduceCtorEq]))
      refine ih (i + 1) _ (by omega) ⟨h, by rw [← hy]; simp [e]⟩ ?_
      simp -dsimp (disch := first | omega | (simp only [wr_id, List.length_cons, List.length_nil, List.length_map, List.length_append, List.length_take, List.length_drop, List.length_replicate, List.length_set, mkG_len] <;> omega) | fail) only [push_cast, if_pos, decide_eq_true, decide_eq_false, wr_id, Nat.reduceAdd, Nat.reduceSub, Nat.reduceMul, Nat.reduceBEq, Nat.reduceEqDiff, Nat.reduceLT, Nat.reduceLeDiff, Int.reduceToNat, Int.reduceLE, Int.reduceLT, Int.reduceAdd, Int.reduceSub, Int.reduceMul, Int.reduceEq, Int.reduceNeg, ↓reduceIte, reduceCtorEq]
    · have hy : false = M := by rw [← hy]; simp [e]
      (simp -dsimp (disch := first | omega | (simp only [hx, e, ← hy, List.length_cons, List.length_nil, List.length_map, List.length_append, List.length_take, List.length_drop, List.length_replicate, List.length_set, mkG_len] <;> omega) | fail) only [push_cast, if_pos, decide_eq_true, decide_eq_false, hx, e, ← hy, Nat.reduceAdd, Nat.reduceSub, Nat.reduceMul, Nat.reduceBEq, Nat.reduceEqDiff, Nat.reduceLT, Nat.reduceLeDiff, Int.reduceToNat, Int.reduceLE, Int.reduceLT, Int.reduceAdd, Int.reduceSub, Int.reduceMul, Int.reduceEq, Int.reduceNeg, ↓reduceIte, reduceCtorEq]) <;> (repeat (refine (aw_draw (by kernel_rfl)).2 ?_; simp -dsimp (disch := first | omega | (simp only [hx, e, ← hy, List.length_cons, List.length_nil, List.length_map, List.length_append, List.length_take, List.length_drop, List.length_replicate, List.length_set, mkG_len] <;> omega) | fail) only [push_cast, if_pos, decide_eq_true, decide_eq_false, hx, e, ← hy, Nat.reduceAdd, Nat.reduceSub, Nat.reduceMul, Nat.reduceBEq, Nat.reduceEqDiff, Nat.reduceLT, Nat.reduceLeDiff, Int.reduceToNat, Int.reduceLE, Int.reduceLT, Int.reduceAdd, Int.reduceSub, Int.reduceMul, Int.reduceEq, Int.reduceNeg, ↓reduceIte, reduceCtorEq]))
  · rw [List.drop_eq_nil_of_le (by omega)] at hy
    have hy : true = M := by rw [← hy]; rfl
    (simp -dsimp (disch := first | omega | (simp only [← hy, List.length_cons, List.length_nil, List.length_map, List.length_append, List.length_take, List.length_drop, List.length_replicate, List.length_set, mkG_len] <;> omega) | fail) only [push_cast, if_pos, decide_eq_true, decide_eq_false, ← hy, Nat.reduceAdd, Nat.reduceSub, Nat.reduceMul, Nat.reduceBEq, Nat.reduceEqDiff, Nat.reduceLT, Nat.reduceLeDiff, Int.reduceToNat, Int.reduceLE, Int.reduceLT, Int.reduceAdd, Int.reduceSub, Int.reduceMul, Int.reduceEq, Int.reduceNeg, ↓reduceIte, reduceCtorEq]) <;> (repeat (refine (aw_draw (by kernel_rfl)).2 ?_; simp -dsimp (disch := first | omega | (simp only [← hy, List.length_cons, List.length_nil, List.length_map, List.length_append, List.length_take, List.length_drop, List.length_replicate, List.length_set, mkG_len] <;> omega) | fail) only [push_cast, if_pos, decide_eq_true, decide_eq_false, ← hy, Nat.reduceAdd, Nat.reduceSub, Nat.reduceMul, Nat.reduceBEq, Nat.reduceEqDiff, Nat.reduceLT, Nat.reduceLeDiff, Int.reduceToNat, Int.reduceLE, Int.reduceLT, Int.reduceAdd, Int.reduceSub, Int.reduceMul, Int.reduceEq, Int.reduceNeg, ↓reduceIte, reduceCtorEq]))
theorem decD_len : ∀ n : Nat, (Lib.decDigits n).length ≤ n + 1 := by
  intro n
  induction n using Nat.strongRecOn with
  | _ n ih =>
    rw [Lib.decDigits]
    split
    · simp
    · have := ih (n / 10) (by omega)
      rw [List.length_append, List.length_cons, List.length_nil]; omega
def E81 : Env := { T := T0, kp := look [(0, [0]), (1, [0]), (2, [0]), (3, [0])], dp := look2 [(3, [[], [0], [0, 1], [], [3], [3, 4], [3, 4, 5], [3, 4, 5, 6], [3, 4, 5, 6, 7], [0, 1, 2, 3, 4, 5, 6, 7, 8], [0, 1, 2, 3, 4, 5, 6, 7, 8, 9]])] }
attribute [local push_cast] E81
set_option maxRecDepth 20000 in
set_option maxHeartbeats 1000000 in
theorem l3Dec_step (n : Nat) (hn : n ≤ 1000000) (ih : ∀ q : Nat, q < n → q ≤ 1000000 → Does Tryz.prog 81 [.sc (.int .i64 q)] (.sc (.string (stB (Lib.decDigits q))), [])) : Does Tryz.prog 81 [.sc (.int .i64 n)] (.sc (.string (stB (Lib.decDigits n))), []) := by
  refine does_of (E := E81) (rs := [.tmp 2]) (lent := []) tOk rfl Tryz.func81 rfl (by decide) rfl rfl (Nat.le_of_ble_eq_true rfl) (Nat.le_of_ble_eq_true rfl) ?_
  obtain ⟨R, hR⟩ : ∃ R, R = stB (Lib.decDigits n) := ⟨_, rfl⟩
  rw [← hR]
  by_cases h : n < 10
  · have e : (⟨#[UInt8.ofNat (wr .u8 (48 + (n : Int))).toNat]⟩ : ByteArray) = R := by
      rw [hR, Lib.decDigits, dif_pos h]
      have : (wr .u8 (48 + (n : Int))).toNat = 48 + n := by rw [wr_u8]; omega
      rw [this]; rfl
    clear hR ih
    (simp -dsimp (disch := first | omega | (simp only [h, wr_id, e, List.length_cons, List.length_nil, List.length_map, List.length_append, List.length_take, List.length_drop, List.length_replicate, List.length_set, mkG_len] <;> omega) | fail) only [push_cast, if_pos, decide_eq_true, decide_eq_false, h, wr_id, e, Nat.reduceAdd, Nat.reduceSub, Nat.reduceMul, Nat.reduceBEq, Nat.reduceEqDiff, Nat.reduceLT, Nat.reduceLeDiff, Int.reduceToNat, Int.reduceLE, Int.reduceLT, Int.reduceAdd, Int.reduceSub, Int.reduceMul, Int.reduceEq, Int.reduceNeg, ↓reduceIte, reduceCtorEq]) <;> (repeat (refine (aw_draw (by kernel_rfl)).2 ?_; simp -dsimp (disch := first | omega | (simp only [h, wr_id, e, List.length_cons, List.length_nil, List.length_map, List.length_append, List.length_take, List.length_drop, List.length_replicate, List.length_set, mkG_len] <;> omega) | fail) only [push_cast, if_pos, decide_eq_true, decide_eq_false, h, wr_id, e, Nat.reduceAdd, Nat.reduceSub, Nat.reduceMul, Nat.reduceBEq, Nat.reduceEqDiff, Nat.reduceLT, Nat.reduceLeDiff, Int.reduceToNat, Int.reduceLE, Int.reduceLT, Int.reduceAdd, Int.reduceSub, Int.reduceMul, Int.reduceEq, Int.reduceNeg, ↓reduceIte, reduceCtorEq]))
  · obtain ⟨q, hq⟩ : ∃ q, q = n / 10 := ⟨_, rfl⟩
    obtain ⟨r, hr⟩ : ∃ r, r = n % 10 := ⟨_, rfl⟩
    have e1 : (n : Int).tdiv 10 = (q : Int) := by rw [hq, Int.tdiv_eq_ediv_of_nonneg (by omega)]; rfl
    have e2 : (n : Int).tmod 10 = (r : Int) := by rw [hr, Int.tmod_eq_emod_of_nonneg (by omega)]; rfl
    have hr9 : r < 10 := by omega
    have hqn : q < n := by omega
    have hc := ih q hqn (by omega)
    have hdl := decD_len q
    obtain ⟨X, hX⟩ : ∃ X, X = stB (Lib.decDigits q) := ⟨_, rfl⟩
    have hXs : X.size ≤ q + 1 := by rw [hX, stB_size]; exact hdl
    have e : X ++ strN [wr .u8 (48 + (r : Int))] = R := by
      have : (wr .u8 (48 + (r : Int))).toNat = 48 + r := by rw [wr_u8]; omega
      rw [← strN_one, this, hR, hX, Lib.decDigits.eq_def n, dif_neg h, ← hq, ← hr, ← stB_app]; rfl
    have es : (strN [wr .u8 (48 + (r : Int))]).size = 1 := by rw [strN_size]; rfl
    rw [← hX] at hc
    clear hR hX ih hq hr hdl
    (simp -dsimp (disch := first | omega | (simp only [h, e1, wr_id, List.length_cons, List.length_nil, List.length_map, List.length_append, List.length_take, List.length_drop, List.length_replicate, List.length_set, mkG_len] <;> omega) | fail) only [push_cast, if_pos, decide_eq_true, decide_eq_false, h, e1, wr_id, Nat.reduceAdd, Nat.reduceSub, Nat.reduceMul, Nat.reduceBEq, Nat.reduceEqDiff, Nat.reduceLT, Nat.reduceLeDiff, Int.reduceToNat, Int.reduceLE, Int.reduceLT, Int.reduceAdd, Int.reduceSub, Int.reduceMul, Int.reduceEq, Int.reduceNeg, ↓reduceIte, reduceCtorEq]) <;> (repeat (refine (aw_draw (by kernel_rfl)).2 ?_; simp -dsimp (disch := first | omega | (simp only [h, e1, wr_id, List.length_cons, List.length_nil, List.length_map, List.length_append, List.length_take, List.length_drop, List.length_replicate, List.length_set, mkG_len] <;> omega) | fail) only [push_cast, if_pos, decide_eq_true, decide_eq_false, h, e1, wr_id, Nat.reduceAdd, Nat.reduceSub, Nat.reduceMul, Nat.reduceBEq, Nat.reduceEqDiff, Nat.reduceLT, Nat.reduceLeDiff, Int.reduceToNat, Int.reduceLE, Int.reduceLT, Int.reduceAdd, Int.reduceSub, Int.reduceMul, Int.reduceEq, Int.reduceNeg, ↓reduceIte, reduceCtorEq]))
    refine callC hc ?_
    (simp -dsimp (disch := first | omega | (simp only [h, e1, e2, wr_id, strN_one, e, es, List.length_cons, List.length_nil, List.length_map, List.length_append, List.length_take, List.length_drop, List.length_replicate, List.length_set, mkG_len] <;> omega) | fail) only [push_cast, if_pos, decide_eq_true, decide_eq_false, h, e1, e2, wr_id, strN_one, e, es, Nat.reduceAdd, Nat.reduceSub, Nat.reduceMul, Nat.reduceBEq, Nat.reduceEqDiff, Nat.reduceLT, Nat.reduceLeDiff, Int.reduceToNat, Int.reduceLE, Int.reduceLT, Int.reduceAdd, Int.reduceSub, Int.reduceMul, Int.reduceEq, Int.reduceNeg, ↓reduceIte, reduceCtorEq]) <;> (repeat (refine (aw_draw (by kernel_rfl)).2 ?_; simp -dsimp (disch := first | omega | (simp only [h, e1, e2, wr_id, strN_one, e, es, List.length_cons, List.length_nil, List.length_map, List.length_append, List.length_take, List.length_drop, List.length_replicate, List.length_set, mkG_len] <;> omega) | fail) only [push_cast, if_pos, decide_eq_true, decide_eq_false, h, e1, e2, wr_id, strN_one, e, es, Nat.reduceAdd, Nat.reduceSub, Nat.reduceMul, Nat.reduceBEq, Nat.reduceEqDiff, Nat.reduceLT, Nat.reduceLeDiff, Int.reduceToNat, Int.reduceLE, Int.reduceLT, Int.reduceAdd, Int.reduceSub, Int.reduceMul, Int.reduceEq, Int.reduceNeg, ↓reduceIte, reduceCtorEq]))
theorem l3Dec : ∀ n : Nat, n ≤ 1000000 → Does Tryz.prog 81 [.sc (.int .i64 n)] (.sc (.string (stB (Lib.decDigits n))), []) := by
  intro n
  induction n using Nat.strongRecOn with
  | _ n ih => exact fun hn => l3Dec_step n hn ih
theorem rep2 {α : Type} (a : α) : List.replicate 2 a = [a, a] := rfl
attribute [local push_cast] rep2
def E82 : Env := { T := T0, kp := look [(0, [0]), (1, [0]), (2, [0, 3]), (3, [0, 3, 4]), (4, [0, 3, 4, 5]), (5, [0, 3, 4, 5]), (6, [0, 3, 4, 5]), (7, [4])], dp := look2 [(6, [[], [], [], [], [2, 3], [2, 3, 4], [1, 2, 3, 4, 5], [], [], [], [8, 9], [8, 9, 10], [7, 8, 9, 10, 11], [1, 2, 3, 4, 5, 6, 7, 8, 9, 10, 11, 12], [0, 1, 2, 3, 4, 5, 6, 7, 8, 9, 10, 11, 12, 13], [0, 1, 2, 3, 4, 5, 6, 7, 8, 9, 10, 11, 12, 13, 14]])] }
attribute [local push_cast] E82
set_option maxRecDepth 20000 in
set_option maxHeartbeats 1000000 in
theorem l3Hex (s : Str) (hs : s.size ≤ 1000000) : Does Tryz.prog 82 [.sc (.string s)] (.sc (.string (stB (Lib.Hx.encode (bt s)))), []) := by
  refine does_of (E := E82) (rs := [.tmp 2]) (lent := []) tOk rfl Tryz.func82 rfl (by decide) rfl rfl (Nat.le_of_ble_eq_true rfl) (Nat.le_of_ble_eq_true rfl) ?_
  obtain ⟨T, hT⟩ : ∃ T : Str, T = ⟨#[48, 49, 50, 51, 52, 53, 54, 55, 56, 57, 97, 98, 99, 100, 101, 102]⟩ := ⟨_, rfl⟩
  (simp -dsimp (disch := first | omega | (simp only [List.length_cons, List.length_nil, List.length_map, List.length_append, List.length_take, List.length_drop, List.length_replicate, List.length_set, mkG_len] <;> omega) | fail) only [push_cast, if_pos, decide_eq_true, decide_eq_false, Nat.reduceAdd, Nat.reduceSub, Nat.reduceMul, Nat.reduceBEq, Nat.reduceEqDiff, Nat.reduceLT, Nat.reduceLeDiff, Int.reduceToNat, Int.reduceLE, Int.reduceLT, Int.reduceAdd, Int.reduceSub, Int.reduceMul, Int.reduceEq, Int.reduceNeg, ↓reduceIte, reduceCtorEq]) <;> (repeat (refine (aw_draw (by kernel_rfl)).2 ?_; simp -dsimp (disch := first | omega | (simp only [List.length_cons, List.length_nil, List.length_map, List.length_append, List.length_take, List.length_drop, List.length_replicate, List.length_set, mkG_len] <;> omega) | fail) only [push_cast, if_pos, decide_eq_true, decide_eq_false, Nat.reduceAdd, Nat.reduceSub, Nat.reduceMul, Nat.reduceBEq, Nat.reduceEqDiff, Nat.reduceLT, Nat.reduceLeDiff, Int.reduceToNat, Int.reduceLE, Int.reduceLT, Int.reduceAdd, Int.reduceSub, Int.reduceMul, Int.reduceEq, Int.reduceNeg, ↓reduceIte, reduceCtorEq]))
  refine loop_ind (α := Nat) (fun i => i ≤ s.size)
    (fun i => ⟨[(0, .sc (.string s)), (3, .sc (.string T)), (4, .ow 1 0 (Lib.Hx.encode ((bt s).take i)).length), (5, .sc (.int .i64 i))], [(1, .ar 1 0 ((Lib.Hx.encode ((bt s).take i)).map byteRow))], 2⟩) (fun i => s.size - i) 0 (Nat.zero_le _) ?_ ?_
  · simp -dsimp (disch := first | omega | (simp only [List.take_zero, List.length_cons, List.length_nil, List.length_map, List.length_append, List.length_take, List.length_drop, List.length_replicate, List.length_set, mkG_len] <;> omega) | fail) only [push_cast, if_pos, decide_eq_true, decide_eq_false, List.take_zero, Nat.reduceAdd, Nat.reduceSub, Nat.reduceMul, Nat.reduceBEq, Nat.reduceEqDiff, Nat.reduceLT, Nat.reduceLeDiff, Int.reduceToNat, Int.reduceLE, Int.reduceLT, Int.reduceAdd, Int.reduceSub, Int.reduceMul, Int.reduceEq, Int.reduceNeg, ↓reduceIte, reduceCtorEq]
    rw [hT]
    rfl
  intro i hi ih
  have hlen : (Lib.Hx.encode ((bt s).take i)).length = 2 * i := by rw [Lib.Hx.encode_length, List.length_take, bt_len]; omega
  by_cases h : i < s.size
  · obtain ⟨u, hu⟩ := ex_get (by rw [bt_len]; exact h : i < (bt s).length)
    have hub : u.toNat < 256 := u.toNat_lt
    obtain ⟨q, hq⟩ : ∃ q, q = u.toNat / 16 := ⟨_, rfl⟩
    obtain ⟨r, hr⟩ : ∃ r, r = u.toNat % 16 := ⟨_, rfl⟩
    have e1 : wr .u8 ((u.toNat : Int).tdiv 16) = (q : Int) := by rw [wr_u8, hq, Int.tdiv_eq_ediv_of_nonneg (by omega)]; omega
    have e2 : (u.toNat : Int).tmod 16 = (r : Int) := by rw [hr, Int.tmod_eq_emod_of_nonneg (by omega)]; omega
    have g : ∀ d : Nat, d < 16 → (bt T)[d]? = some (Lib.Hx.digit d) := by
      intro d hd
      rw [hT]
      have hl : d < Lib.Hx.tab.data.toList.length := hd
      show Lib.Hx.tab.data.toList[d]? = some (Lib.Hx.tab.data.toList[d]?.getD 0)
      rw [List.getElem?_eq_getElem hl]; rfl
    have g1 := g q (by omega)
    have g2 := g r (by omega)
    have hq16 : q < 16 := by omega
    have hr16 : r < 16 := by omega
    have hTs : T.size = 16 := by rw [hT]; rfl
    (simp -dsimp (disch := first | omega | (simp only [hu, e1, e2, g1, g2, hTs, List.length_cons, List.length_nil, List.length_map, List.length_append, List.length_take, List.length_drop, List.length_replicate, List.length_set, mkG_len] <;> omega) | fail) only [push_cast, if_pos, decide_eq_true, decide_eq_false, hu, e1, e2, g1, g2, hTs, Nat.reduceAdd, Nat.reduceSub, Nat.reduceMul, Nat.reduceBEq, Nat.reduceEqDiff, Nat.reduceLT, Nat.reduceLeDiff, Int.reduceToNat, Int.reduceLE, Int.reduceLT, Int.reduceAdd, Int.reduceSub, Int.reduceMul, Int.reduceEq, Int.reduceNeg, ↓reduceIte, reduceCtorEq]) <;> (repeat (refine (aw_draw (by kernel_rfl)).2 ?_; simp -dsimp (disch := first | omega | (simp only [hu, e1, e2, g1, g2, hTs, List.length_cons, List.length_nil, List.length_map, List.length_append, List.length_take, List.length_drop, List.length_replicate, List.length_set, mkG_len] <;> omega) | fail) only [push_cast, if_pos, decide_eq_true, decide_eq_false, hu, e1, e2, g1, g2, hTs, Nat.reduceAdd, Nat.reduceSub, Nat.reduceMul, Nat.reduceBEq, Nat.reduceEqDiff, Nat.reduceLT, Nat.reduceLeDiff, Int.reduceToNat, Int.reduceLE, Int.reduceLT, Int.reduceAdd, Int.reduceSub, Int.reduceMul, Int.reduceEq, Int.reduceNeg, ↓reduceIte, reduceCtorEq]))
    refine ih (i + 1) _ (by omega) h ?_
    have e3 : Lib.Hx.encode ((bt s).take (i + 1)) = Lib.Hx.encode ((bt s).take i) ++ [Lib.Hx.digit q, Lib.Hx.digit r] := by
      rw [take_step hu, hq, hr]
      unfold Lib.Hx.encode
      rw [List.flatMap_append]; simp
    rw [e3]
    simp -dsimp (disch := first | omega | (simp only [wr_id, List.length_append, List.length_cons, List.length_nil, List.map_append, List.map_cons, List.map_nil, byteRow, List.length_cons, List.length_nil, List.length_map, List.length_append, List.length_take, List.length_drop, List.length_replicate, List.length_set, mkG_len] <;> omega) | fail) only [push_cast, if_pos, decide_eq_true, decide_eq_false, wr_id, List.length_append, List.length_cons, List.length_nil, List.map_append, List.map_cons, List.map_nil, byteRow, Nat.reduceAdd, Nat.reduceSub, Nat.reduceMul, Nat.reduceBEq, Nat.reduceEqDiff, Nat.reduceLT, Nat.reduceLeDiff, Int.reduceToNat, Int.reduceLE, Int.reduceLT, Int.reduceAdd, Int.reduceSub, Int.reduceMul, Int.reduceEq, Int.reduceNeg, ↓reduceIte, reduceCtorEq]
    trace_state
  · have hl : (bt s).take i = bt s := List.take_of_length_le (by rw [bt_len]; omega)
    rw [hl] at hlen
    (simp -dsimp (disch := first | omega | (simp only [hl, List.length_cons, List.length_nil, List.length_map, List.length_append, List.length_take, List.length_drop, List.length_replicate, List.length_set, mkG_len] <;> omega) | fail) only [push_cast, if_pos, decide_eq_true, decide_eq_false, hl, Nat.reduceAdd, Nat.reduceSub, Nat.reduceMul, Nat.reduceBEq, Nat.reduceEqDiff, Nat.reduceLT, Nat.reduceLeDiff, Int.reduceToNat, Int.reduceLE, Int.reduceLT, Int.reduceAdd, Int.reduceSub, Int.reduceMul, Int.reduceEq, Int.reduceNeg, ↓reduceIte, reduceCtorEq]) <;> (repeat (refine (aw_draw (by kernel_rfl)).2 ?_; simp -dsimp (disch := first | omega | (simp only [hl, List.length_cons, List.length_nil, List.length_map, List.length_append, List.length_take, List.length_drop, List.length_replicate, List.length_set, mkG_len] <;> omega) | fail) only [push_cast, if_pos, decide_eq_true, decide_eq_false, hl, Nat.reduceAdd, Nat.reduceSub, Nat.reduceMul, Nat.reduceBEq, Nat.reduceEqDiff, Nat.reduceLT, Nat.reduceLeDiff, Int.reduceToNat, Int.reduceLE, Int.reduceLT, Int.reduceAdd, Int.reduceSub, Int.reduceMul, Int.reduceEq, Int.reduceNeg, ↓reduceIte, reduceCtorEq]))
    rfl
end Go.Proofs.YtgkncgiglmdnaaaGreatDoor.Mx

/- A machine over values for Go functions, proved sound, and functions run on it: texts F47, F53. -/
import Derived.Test.YtgkncgiglmdnaaaGreatDoorListsXaj
/- Things built of pieces. -/
namespace Go.Proofs.YtgkncgiglmdnaaaGreatDoor.Mx
set_option linter.all false
open Go Go.RowKit Go.Proofs
set_option linter.unusedSimpArgs false
theorem take_ne {a b : List Str} {i : Nat} {x y : Str} (hx : a[i]? = some x) (hy : b[i]? = some y) (e : x ≠ y) : a ≠ b := fun q => by
  subst q; rw [hx] at hy; cases hy; exact e rfl
def E89 : Env := { T := T0, kp := look [(0, [0, 1]), (1, [2, 3]), (2, []), (3, [2, 3]), (4, [2, 3, 22, 23]), (5, [2, 3, 22, 23]), (6, [2, 3, 5, 22, 23]), (7, []), (8, [2, 3, 22, 23]), (9, [])], dp := look2 [(6, [[], [0], [], [0, 1, 2], [0, 1, 2, 3], [], [5], [], [5, 6, 7], [5, 6, 7, 8], [0, 1, 2, 3, 4, 5, 6, 7, 8, 9]])] }
attribute [local push_cast] E89
set_option maxHeartbeats 1000000 in
theorem sameList (a b : Lst) (hl : b.S.length ≤ 2097152) : Does Tryz.prog 89 [.ag (lstC false a), .ag (lstC false b)] (.sc (.bool (decide (a = b))), []) := by
  refine does_of (E := E89) (rs := [.tmp 4]) (lent := []) tOk rfl Tryz.func89 rfl (by decide) rfl rfl (Nat.le_of_ble_eq_true rfl) (Nat.le_of_ble_eq_true rfl) ?_
  obtain ⟨A, S⟩ := a
  obtain ⟨B, T⟩ := b
  simp only at hl
  by_cases h1 : A = B
  rotate_left
  · have hn : ¬ ((⟨A, S⟩ : Lst) = ⟨B, T⟩) := fun q => h1 (by cases q; rfl)
    (simp -dsimp (disch := first | omega | (simp only [h1, hn, List.length_cons, List.length_nil, List.length_map, List.length_append, List.length_take, List.length_drop, List.length_replicate, List.length_set, mkG_len] <;> omega) | fail) only [push_cast, if_pos, decide_eq_true, decide_eq_false, h1, hn, simprocAttr, -Nat.reduceSubDiff]) <;> (repeat (refine (aw_draw (by kernel_rfl)).2 ?_; simp -dsimp (disch := first | omega | (simp only [h1, hn, List.length_cons, List.length_nil, List.length_map, List.length_append, List.length_take, List.length_drop, List.length_replicate, List.length_set, mkG_len] <;> omega) | fail) only [push_cast, if_pos, decide_eq_true, decide_eq_false, h1, hn, simprocAttr, -Nat.reduceSubDiff]))
  subst h1
  by_cases h2 : S.length = T.length
  rotate_left
  · have hn : ¬ ((⟨A, S⟩ : Lst) = ⟨A, T⟩) := fun q => h2 (by cases q; rfl)
    (simp -dsimp (disch := first | omega | (simp only [h2, hn, List.length_cons, List.length_nil, List.length_map, List.length_append, List.length_take, List.length_drop, List.length_replicate, List.length_set, mkG_len] <;> omega) | fail) only [push_cast, if_pos, decide_eq_true, decide_eq_false, h2, hn, simprocAttr, -Nat.reduceSubDiff]) <;> (repeat (refine (aw_draw (by kernel_rfl)).2 ?_; simp -dsimp (disch := first | omega | (simp only [h2, hn, List.length_cons, List.length_nil, List.length_map, List.length_append, List.length_take, List.length_drop, List.length_replicate, List.length_set, mkG_len] <;> omega) | fail) only [push_cast, if_pos, decide_eq_true, decide_eq_false, h2, hn, simprocAttr, -Nat.reduceSubDiff]))
  have he : ((⟨A, S⟩ : Lst) = ⟨A, T⟩) ↔ S = T := ⟨fun q => by cases q; rfl, fun q => by rw [q]⟩
  obtain ⟨M, hM⟩ : ∃ M, M = decide ((⟨A, S⟩ : Lst) = ⟨A, T⟩) := ⟨_, rfl⟩
  rw [← hM]
  (simp -dsimp (disch := first | omega | (simp only [h2, List.length_cons, List.length_nil, List.length_map, List.length_append, List.length_take, List.length_drop, List.length_replicate, List.length_set, mkG_len] <;> omega) | fail) only [push_cast, if_pos, decide_eq_true, decide_eq_false, h2, simprocAttr, -Nat.reduceSubDiff]) <;> (repeat (refine (aw_draw (by kernel_rfl)).2 ?_; simp -dsimp (disch := first | omega | (simp only [h2, List.length_cons, List.length_nil, List.length_map, List.length_append, List.length_take, List.length_drop, List.length_replicate, List.length_set, mkG_len] <;> omega) | fail) only [push_cast, if_pos, decide_eq_true, decide_eq_false, h2, simprocAttr, -Nat.reduceSubDiff]))
  refine loop_ind (α := Nat) (fun i => i ≤ T.length ∧ S.take i = T.take i) (fun i => ⟨[(2, .pt 1 0 0), (3, .pt 2 0 0), (22, .sc (.int .i64 T.length)), (23, .sc (.int .i64 i))], [(1, .bx (lstC false ⟨A, S⟩)), (2, .bx (lstC false ⟨A, T⟩))], 3⟩) (fun i => T.length - i) 0 ⟨Nat.zero_le _, by simp⟩ ?_ ?_
  · simp -dsimp (disch := first | omega | (simp only [List.length_cons, List.length_nil, List.length_map, List.length_append, List.length_take, List.length_drop, List.length_replicate, List.length_set, mkG_len] <;> omega) | fail) only [push_cast, if_pos, decide_eq_true, decide_eq_false, simprocAttr, -Nat.reduceSubDiff]
  rintro i ⟨hi, hq⟩ ih
  by_cases h : i < T.length
  · obtain ⟨y, hy⟩ := ex_get h
    obtain ⟨x, hx⟩ := ex_get (show i < S.length by omega)
    by_cases e : x = y
    · subst e
      (simp -dsimp (disch := first | omega | (simp only [h, hx, hy, List.length_cons, List.length_nil, List.length_map, List.length_append, List.length_take, List.length_drop, List.length_replicate, List.length_set, mkG_len] <;> omega) | fail) only [push_cast, if_pos, decide_eq_true, decide_eq_false, h, hx, hy, simprocAttr, -Nat.reduceSubDiff]) <;> (repeat (refine (aw_draw (by kernel_rfl)).2 ?_; simp -dsimp (disch := first | omega | (simp only [h, hx, hy, List.length_cons, List.length_nil, List.length_map, List.length_append, List.length_take, List.length_drop, List.length_replicate, List.length_set, mkG_len] <;> omega) | fail) only [push_cast, if_pos, decide_eq_true, decide_eq_false, h, hx, hy, simprocAttr, -Nat.reduceSubDiff]))
      refine ih (i + 1) _ (by omega) ⟨h, by rw [take_step hx, take_step hy, hq]⟩ ?_
      simp -dsimp (disch := first | omega | (simp only [wr_id, List.length_cons, List.length_nil, List.length_map, List.length_append, List.length_take, List.length_drop, List.length_replicate, List.length_set, mkG_len] <;> omega) | fail) only [push_cast, if_pos, decide_eq_true, decide_eq_false, wr_id, simprocAttr, -Nat.reduceSubDiff]
    · have hM : M = false := by rw [hM]; exact decide_eq_false fun q => take_ne hx hy e (he.1 q)
      (simp -dsimp (disch := first | omega | (simp only [h, hx, hy, e, hM, List.length_cons, List.length_nil, List.length_map, List.length_append, List.length_take, List.length_drop, List.length_replicate, List.length_set, mkG_len] <;> omega) | fail) only [push_cast, if_pos, decide_eq_true, decide_eq_false, h, hx, hy, e, hM, simprocAttr, -Nat.reduceSubDiff]) <;> (repeat (refine (aw_draw (by kernel_rfl)).2 ?_; simp -dsimp (disch := first | omega | (simp only [h, hx, hy, e, hM, List.length_cons, List.length_nil, List.length_map, List.length_append, List.length_take, List.length_drop, List.length_replicate, List.length_set, mkG_len] <;> omega) | fail) only [push_cast, if_pos, decide_eq_true, decide_eq_false, h, hx, hy, e, hM, simprocAttr, -Nat.reduceSubDiff]))
  · have hM : M = true := by
      rw [hM]; refine decide_eq_true (he.2 ?_)
      rw [List.take_of_length_le (by omega), List.take_of_length_le (by omega)] at hq
      exact hq
    (simp -dsimp (disch := first | omega | (simp only [h, hM, List.length_cons, List.length_nil, List.length_map, List.length_append, List.length_take, List.length_drop, List.length_replicate, List.length_set, mkG_len] <;> omega) | fail) only [push_cast, if_pos, decide_eq_true, decide_eq_false, h, hM, simprocAttr, -Nat.reduceSubDiff]) <;> (repeat (refine (aw_draw (by kernel_rfl)).2 ?_; simp -dsimp (disch := first | omega | (simp only [h, hM, List.length_cons, List.length_nil, List.length_map, List.length_append, List.length_take, List.length_drop, List.length_replicate, List.length_set, mkG_len] <;> omega) | fail) only [push_cast, if_pos, decide_eq_true, decide_eq_false, h, hM, simprocAttr, -Nat.reduceSubDiff]))
def E94 : Env := { T := T0, kp := look [(0, [0, 1]), (1, [2, 3]), (2, []), (3, [2, 3]), (4, [2, 3, 5]), (5, [2, 3, 5]), (6, [2, 3, 5]), (7, []), (8, [])], dp := look2 [(6, [[], [0], [], [0, 1, 2], [0, 1, 2, 3], [], [5], [], [5, 6, 7], [5, 6, 7, 8], [0, 1, 2, 3, 4, 5, 6, 7, 8, 9]])] }
attribute [local push_cast] E94
set_option maxHeartbeats 1000000 in
theorem l3Same (a b : Lst) (hl : b.S.length ≤ 2097152) : Does Tryz.prog 94 [.ag (lstC false a), .ag (lstC false b)] (.sc (.bool (decide (a = b))), []) := by
  refine does_of (E := E94) (rs := [.tmp 4]) (lent := []) tOk rfl Tryz.func94 rfl (by decide) rfl rfl (Nat.le_of_ble_eq_true rfl) (Nat.le_of_ble_eq_true rfl) ?_
  obtain ⟨A, S⟩ := a
  obtain ⟨B, T⟩ := b
  simp only at hl
  by_cases h1 : A = B
  rotate_left
  · have hn : ¬ ((⟨A, S⟩ : Lst) = ⟨B, T⟩) := fun q => h1 (by cases q; rfl)
    (simp -dsimp (disch := first | omega | (simp only [h1, hn, List.length_cons, List.length_nil, List.length_map, List.length_append, List.length_take, List.length_drop, List.length_replicate, List.length_set, mkG_len] <;> omega) | fail) only [push_cast, if_pos, decide_eq_true, decide_eq_false, h1, hn, simprocAttr, -Nat.reduceSubDiff]) <;> (repeat (refine (aw_draw (by kernel_rfl)).2 ?_; simp -dsimp (disch := first | omega | (simp only [h1, hn, List.length_cons, List.length_nil, List.length_map, List.length_append, List.length_take, List.length_drop, List.length_replicate, List.length_set, mkG_len] <;> omega) | fail) only [push_cast, if_pos, decide_eq_true, decide_eq_false, h1, hn, simprocAttr, -Nat.reduceSubDiff]))
  subst h1
  by_cases h2 : S.length = T.length
  rotate_left
  · have hn : ¬ ((⟨A, S⟩ : Lst) = ⟨A, T⟩) := fun q => h2 (by cases q; rfl)
    (simp -dsimp (disch := first | omega | (simp only [h2, hn, List.length_cons, List.length_nil, List.length_map, List.length_append, List.length_take, List.length_drop, List.length_replicate, List.length_set, mkG_len] <;> omega) | fail) only [push_cast, if_pos, decide_eq_true, decide_eq_false, h2, hn, simprocAttr, -Nat.reduceSubDiff]) <;> (repeat (refine (aw_draw (by kernel_rfl)).2 ?_; simp -dsimp (disch := first | omega | (simp only [h2, hn, List.length_cons, List.length_nil, List.length_map, List.length_append, List.length_take, List.length_drop, List.length_replicate, List.length_set, mkG_len] <;> omega) | fail) only [push_cast, if_pos, decide_eq_true, decide_eq_false, h2, hn, simprocAttr, -Nat.reduceSubDiff]))
  have he : ((⟨A, S⟩ : Lst) = ⟨A, T⟩) ↔ S = T := ⟨fun q => by cases q; rfl, fun q => by rw [q]⟩
  obtain ⟨M, hM⟩ : ∃ M, M = decide ((⟨A, S⟩ : Lst) = ⟨A, T⟩) := ⟨_, rfl⟩
  rw [← hM]
  (simp -dsimp (disch := first | omega | (simp only [h2, List.length_cons, List.length_nil, List.length_map, List.length_append, List.length_take, List.length_drop, List.length_replicate, List.length_set, mkG_len] <;> omega) | fail) only [push_cast, if_pos, decide_eq_true, decide_eq_false, h2, simprocAttr, -Nat.reduceSubDiff]) <;> (repeat (refine (aw_draw (by kernel_rfl)).2 ?_; simp -dsimp (disch := first | omega | (simp only [h2, List.length_cons, List.length_nil, List.length_map, List.length_append, List.length_take, List.length_drop, List.length_replicate, List.length_set, mkG_len] <;> omega) | fail) only [push_cast, if_pos, decide_eq_true, decide_eq_false, h2, simprocAttr, -Nat.reduceSubDiff]))
  refine loop_ind (α := Nat) (fun i => i ≤ T.length ∧ S.take i = T.take i) (fun i => ⟨[(2, .pt 1 0 0), (3, .pt 2 0 0), (5, .sc (.int .i64 i))], [(1, .bx (lstC false ⟨A, S⟩)), (2, .bx (lstC false ⟨A, T⟩))], 3⟩) (fun i => T.length - i) 0 ⟨Nat.zero_le _, by simp⟩ ?_ ?_
  · simp -dsimp (disch := first | omega | (simp only [List.length_cons, List.length_nil, List.length_map, List.length_append, List.length_take, List.length_drop, List.length_replicate, List.length_set, mkG_len] <;> omega) | fail) only [push_cast, if_pos, decide_eq_true, decide_eq_false, simprocAttr, -Nat.reduceSubDiff]
  rintro i ⟨hi, hq⟩ ih
  by_cases h : i < T.length
  · obtain ⟨y, hy⟩ := ex_get h
    obtain ⟨x, hx⟩ := ex_get (show i < S.length by omega)
    by_cases e : x = y
    · subst e
      (simp -dsimp (disch := first | omega | (simp only [h, h2, hx, hy, List.length_cons, List.length_nil, List.length_map, List.length_append, List.length_take, List.length_drop, List.length_replicate, List.length_set, mkG_len] <;> omega) | fail) only [push_cast, if_pos, decide_eq_true, decide_eq_false, h, h2, hx, hy, simprocAttr, -Nat.reduceSubDiff]) <;> (repeat (refine (aw_draw (by kernel_rfl)).2 ?_; simp -dsimp (disch := first | omega | (simp only [h, h2, hx, hy, List.length_cons, List.length_nil, List.length_map, List.length_append, List.length_take, List.length_drop, List.length_replicate, List.length_set, mkG_len] <;> omega) | fail) only [push_cast, if_pos, decide_eq_true, decide_eq_false, h, h2, hx, hy, simprocAttr, -Nat.reduceSubDiff]))
      refine ih (i + 1) _ (by omega) ⟨h, by rw [take_step hx, take_step hy, hq]⟩ ?_
      simp -dsimp (disch := first | omega | (simp only [wr_id, List.length_cons, List.length_nil, List.length_map, List.length_append, List.length_take, List.length_drop, List.length_replicate, List.length_set, mkG_len] <;> omega) | fail) only [push_cast, if_pos, decide_eq_true, decide_eq_false, wr_id, simprocAttr, -Nat.reduceSubDiff]
    · have hM : M = false := by rw [hM]; exact decide_eq_false fun q => take_ne hx hy e (he.1 q)
      (simp -dsimp (disch := first | omega | (simp only [h, h2, hx, hy, e, hM, List.length_cons, List.length_nil, List.length_map, List.length_append, List.length_take, List.length_drop, List.length_replicate, List.length_set, mkG_len] <;> omega) | fail) only [push_cast, if_pos, decide_eq_true, decide_eq_false, h, h2, hx, hy, e, hM, simprocAttr, -Nat.reduceSubDiff]) <;> (repeat (refine (aw_draw (by kernel_rfl)).2 ?_; simp -dsimp (disch := first | omega | (simp only [h, h2, hx, hy, e, hM, List.length_cons, List.length_nil, List.length_map, List.length_append, List.length_take, List.length_drop, List.length_replicate, List.length_set, mkG_len] <;> omega) | fail) only [push_cast, if_pos, decide_eq_true, decide_eq_false, h, h2, hx, hy, e, hM, simprocAttr, -Nat.reduceSubDiff]))
  · have hM : M = true := by
      rw [hM]; refine decide_eq_true (he.2 ?_)
      rw [List.take_of_length_le (by omega), List.take_of_length_le (by omega)] at hq
      exact hq
    (simp -dsimp (disch := first | omega | (simp only [h, h2, hM, List.length_cons, List.length_nil, List.length_map, List.length_append, List.length_take, List.length_drop, List.length_replicate, List.length_set, mkG_len] <;> omega) | fail) only [push_cast, if_pos, decide_eq_true, decide_eq_false, h, h2, hM, simprocAttr, -Nat.reduceSubDiff]) <;> (repeat (refine (aw_draw (by kernel_rfl)).2 ?_; simp -dsimp (disch := first | omega | (simp only [h, h2, hM, List.length_cons, List.length_nil, List.length_map, List.length_append, List.length_take, List.length_drop, List.length_replicate, List.length_set, mkG_len] <;> omega) | fail) only [push_cast, if_pos, decide_eq_true, decide_eq_false, h, h2, hM, simprocAttr, -Nat.reduceSubDiff]))
def E14 : Env := { T := T0, kp := look [(0, [0, 1]), (1, [0, 1, 4]), (2, [4, 5])] }
attribute [local push_cast] E14
theorem implDescribe (t : Str) (w : Int) (ht : t.size ≤ 100000000) : Does Tryz.prog 14 [.sc (.string t), .sc (.int .i64 w)] (.ag (lstC true (descL t w).1), []) := by
  refine does_of (E := E14) (rs := [.cell 4 27]) (lent := []) tOk rfl Tryz.func14 rfl (by decide) rfl rfl (Nat.le_of_ble_eq_true rfl) (Nat.le_of_ble_eq_true rfl) ?_
  (simp -dsimp (disch := first | omega | (simp only [List.length_cons, List.length_nil, List.length_map, List.length_append, List.length_take, List.length_drop, List.length_replicate, List.length_set, mkG_len] <;> omega) | fail) only [push_cast, if_pos, decide_eq_true, decide_eq_false, simprocAttr, -Nat.reduceSubDiff]) <;> (repeat (refine (aw_draw (by kernel_rfl)).2 ?_; simp -dsimp (disch := first | omega | (simp only [List.length_cons, List.length_nil, List.length_map, List.length_append, List.length_take, List.length_drop, List.length_replicate, List.length_set, mkG_len] <;> omega) | fail) only [push_cast, if_pos, decide_eq_true, decide_eq_false, simprocAttr, -Nat.reduceSubDiff]))
  refine callC (implDescribe0 t w ht) ?_
  (simp -dsimp (disch := first | omega | (simp only [List.length_cons, List.length_nil, List.length_map, List.length_append, List.length_take, List.length_drop, List.length_replicate, List.length_set, mkG_len] <;> omega) | fail) only [push_cast, if_pos, decide_eq_true, decide_eq_false, simprocAttr, -Nat.reduceSubDiff]) <;> (repeat (refine (aw_draw (by kernel_rfl)).2 ?_; simp -dsimp (disch := first | omega | (simp only [List.length_cons, List.length_nil, List.length_map, List.length_append, List.length_take, List.length_drop, List.length_replicate, List.length_set, mkG_len] <;> omega) | fail) only [push_cast, if_pos, decide_eq_true, decide_eq_false, simprocAttr, -Nat.reduceSubDiff]))
def E20 : Env := { T := T0, kp := look [(0, [0, 1, 2]), (1, [1, 2, 3]), (2, []), (3, [1, 2, 3]), (4, [1, 2, 3, 8]), (5, [1, 2, 3, 8, 24, 25, 26]), (6, [1, 2, 3, 8, 24, 25, 26]), (7, [1, 2, 3, 8, 9, 10, 24, 25, 26]), (8, [1, 2, 3, 8, 9, 10, 24, 25, 26]), (9, []), (10, [1, 2, 3, 8, 24, 25, 26]), (11, [1, 2, 3]), (12, [2, 3, 11]), (13, []), (14, [11])], dp := look2 [(8, [[], [0], [0, 1], [0, 1, 2], [0, 1, 2], [0, 1, 2, 3, 4], [0, 1, 2], [0, 1, 2, 6], [0, 1, 2], [0, 1, 2, 6, 7, 8], [0, 1, 2, 6, 7, 8, 9], [0, 1, 2, 3, 4, 5, 6, 7, 8, 9, 10], [0, 1, 2, 3, 4, 5, 6, 7, 8, 9, 10, 11]]), (12, [[], [0], [], [2], [0, 1, 2, 3], [0, 1, 2, 3, 4], [0, 1, 2, 3, 4, 5], [0, 1, 2, 3, 4, 5], [0, 1, 2, 3, 4, 5, 6, 7], [0, 1, 2, 3, 4, 5], [0, 1, 2, 3, 4, 5, 6, 7, 8, 9], [0, 1, 2, 3, 4, 5, 6, 7, 8, 9, 10], [0, 1, 2, 3, 4, 5, 6, 7, 8, 9, 10, 11]])] }
attribute [local push_cast] E20
set_option maxRecDepth 20000 in
set_option maxHeartbeats 2000000 in
theorem implBuild (l : Lst) (ps : List Str) (w : Int) (hl : okLst l) (hp : okL okStr ps) : Does Tryz.prog 20 [.ag (lstC false l), .sl false 1 (ps.map strR), .sc (.int .i64 w)] (.tu [.sc (.string (buildF l ps w).1), .sc (.bool (buildF l ps w).2)], []) := by
  refine does_of (E := E20) (rs := [.tmp 6, .tmp 7]) (lent := []) tOk rfl Tryz.func20 rfl (by decide) rfl rfl (Nat.le_of_ble_eq_true rfl) (Nat.le_of_ble_eq_true rfl) ?_
  obtain ⟨M, hM⟩ : ∃ M, M = buildF l ps w := ⟨_, rfl⟩
  rw [← hM]
  have hl1 := hl.1
  have hp1 := hp.1
  (simp -dsimp (disch := first | omega | (simp only [List.length_cons, List.length_nil, List.length_map, List.length_append, List.length_take, List.length_drop, List.length_replicate, List.length_set, mkG_len] <;> omega) | fail) only [push_cast, if_pos, decide_eq_true, decide_eq_false, simprocAttr, -Nat.reduceSubDiff]) <;> (repeat (refine (aw_draw (by kernel_rfl)).2 ?_; simp -dsimp (disch := first | omega | (simp only [List.length_cons, List.length_nil, List.length_map, List.length_append, List.length_take, List.length_drop, List.length_replicate, List.length_set, mkG_len] <;> omega) | fail) only [push_cast, if_pos, decide_eq_true, decide_eq_false, simprocAttr, -Nat.reduceSubDiff]))
  refine callC (listOk l w hl1) ?_
  cases hok : okLs l w with
  | false =>
    rw [build_no (.inl hok)] at hM
    subst hM
    (simp -dsimp (disch := first | omega | (simp only [List.length_cons, List.length_nil, List.length_map, List.length_append, List.length_take, List.length_drop, List.length_replicate, List.length_set, mkG_len] <;> omega) | fail) only [push_cast, if_pos, decide_eq_true, decide_eq_false, simprocAttr, -Nat.reduceSubDiff]) <;> (repeat (refine (aw_draw (by kernel_rfl)).2 ?_; simp -dsimp (disch := first | omega | (simp only [List.length_cons, List.length_nil, List.length_map, List.length_append, List.length_take, List.length_drop, List.length_replicate, List.length_set, mkG_len] <;> omega) | fail) only [push_cast, if_pos, decide_eq_true, decide_eq_false, simprocAttr, -Nat.reduceSubDiff]))
    rfl
  | true =>
  by_cases hn : ps.length = l.S.length
  rotate_left
  · rw [build_no (.inr (.inl hn))] at hM
    subst hM
    (simp -dsimp (disch := first | omega | (simp only [hn, List.length_cons, List.length_nil, List.length_map, List.length_append, List.length_take, List.length_drop, List.length_replicate, List.length_set, mkG_len] <;> omega) | fail) only [push_cast, if_pos, decide_eq_true, decide_eq_false, hn, simprocAttr, -Nat.reduceSubDiff]) <;> (repeat (refine (aw_draw (by kernel_rfl)).2 ?_; simp -dsimp (disch := first | omega | (simp only [hn, List.length_cons, List.length_nil, List.length_map, List.length_append, List.length_take, List.length_drop, List.length_replicate, List.length_set, mkG_len] <;> omega) | fail) only [push_cast, if_pos, decide_eq_true, decide_eq_false, hn, simprocAttr, -Nat.reduceSubDiff]))
    rfl
  obtain ⟨R, hR⟩ : ∃ R, R = bldB w 0 ps l.S := ⟨_, rfl⟩
  have hno : R = false → M = (em, false) := fun q => by rw [hM, build_no (.inr (.inr (.inl (hR ▸ q))))]
  (simp -dsimp (disch := first | omega | (simp only [hn, List.length_cons, List.length_nil, List.length_map, List.length_append, List.length_take, List.length_drop, List.length_replicate, List.length_set, mkG_len] <;> omega) | fail) only [push_cast, if_pos, decide_eq_true, decide_eq_false, hn, simprocAttr, -Nat.reduceSubDiff]) <;> (repeat (refine (aw_draw (by kernel_rfl)).2 ?_; simp -dsimp (disch := first | omega | (simp only [hn, List.length_cons, List.length_nil, List.length_map, List.length_append, List.length_take, List.length_drop, List.length_replicate, List.length_set, mkG_len] <;> omega) | fail) only [push_cast, if_pos, decide_eq_true, decide_eq_false, hn, simprocAttr, -Nat.reduceSubDiff]))
  refine loop_ind (α := Nat) (fun i => i ≤ l.S.length ∧ (jb (ps.take i)).length ≤ 3000 ∧ bldB w (jb (ps.take i)).length (ps.drop i) (l.S.drop i) = R)
    (fun i => ⟨[(1, .sl false 1 (ps.map strR)), (2, .sc (.int .i64 w)), (3, .pt 1 0 0), (8, .sc (.int .i64 (jb (ps.take i)).length)), (24, .sl false 1 (ps.map strR)), (25, .sc (.int .i64 l.S.length)), (26, .sc (.int .i64 i))], [(1, .bx (lstC false l))], 2⟩) (fun i => l.S.length - i) 0 ⟨Nat.zero_le _, by simp [jb], by rw [hR]; simp [jb]⟩ ?_ ?_
  · simp -dsimp (disch := first | omega | (simp only [List.take_zero, jb, List.flatMap_nil, List.length_cons, List.length_nil, List.length_map, List.length_append, List.length_take, List.length_drop, List.length_replicate, List.length_set, mkG_len] <;> omega) | fail) only [push_cast, if_pos, decide_eq_true, decide_eq_false, List.take_zero, jb, List.flatMap_nil, simprocAttr, -Nat.reduceSubDiff]
  rintro i ⟨hi, hj, hq⟩ ih
  by_cases h : i < l.S.length
  · obtain ⟨s, hs⟩ := ex_get h
    obtain ⟨p, hpi⟩ := ex_get (show i < ps.length by omega)
    have hps : p.size ≤ 2097152 := hp.2 p (List.mem_of_getElem? hpi)
    have hjt := jb_take hpi
    rw [drop_step hs, drop_step hpi, bldB] at hq
    obtain ⟨n, hn0⟩ : ∃ n, n = (jb (ps.take i)).length := ⟨_, rfl⟩
    rw [← hn0] at hj hjt hq ⊢
    by_cases hbig : 3000 < n + p.size
    · have hM2 := hno (by rw [← hq, show decide (n + p.size ≤ 3000) = false from decide_eq_false (by omega)]; rfl)
      (simp -dsimp (disch := first | omega | (simp only [h, hpi, hM2, wr_id, hbig, List.length_cons, List.length_nil, List.length_map, List.length_append, List.length_take, List.length_drop, List.length_replicate, List.length_set, mkG_len] <;> omega) | fail) only [push_cast, if_pos, decide_eq_true, decide_eq_false, h, hpi, hM2, wr_id, hbig, simprocAttr, -Nat.reduceSubDiff]) <;> (repeat (refine (aw_draw (by kernel_rfl)).2 ?_; simp -dsimp (disch := first | omega | (simp only [h, hpi, hM2, wr_id, hbig, List.length_cons, List.length_nil, List.length_map, List.length_append, List.length_take, List.length_drop, List.length_replicate, List.length_set, mkG_len] <;> omega) | fail) only [push_cast, if_pos, decide_eq_true, decide_eq_false, h, hpi, hM2, wr_id, hbig, simprocAttr, -Nat.reduceSubDiff]))
      rfl
    rw [show decide (n + p.size ≤ 3000) = true from decide_eq_true (by omega), Bool.true_and] at hq
    by_cases he : sumS p w = s
    · rw [show decide (sumS p w = s) = true from decide_eq_true he, Bool.true_and, ← hjt] at hq
      (simp -dsimp (disch := first | omega | (simp only [h, hpi, hs, wr_id, hbig, List.length_cons, List.length_nil, List.length_map, List.length_append, List.length_take, List.length_drop, List.length_replicate, List.length_set, mkG_len] <;> omega) | fail) only [push_cast, if_pos, decide_eq_true, decide_eq_false, h, hpi, hs, wr_id, hbig, simprocAttr, -Nat.reduceSubDiff]) <;> (repeat (refine (aw_draw (by kernel_rfl)).2 ?_; simp -dsimp (disch := first | omega | (simp only [h, hpi, hs, wr_id, hbig, List.length_cons, List.length_nil, List.length_map, List.length_append, List.length_take, List.length_drop, List.length_replicate, List.length_set, mkG_len] <;> omega) | fail) only [push_cast, if_pos, decide_eq_true, decide_eq_false, h, hpi, hs, wr_id, hbig, simprocAttr, -Nat.reduceSubDiff]))
      refine callC (implSum p w (by omega)) ?_
      (simp -dsimp (disch := first | omega | (simp only [h, hpi, hs, wr_id, hbig, he, List.length_cons, List.length_nil, List.length_map, List.length_append, List.length_take, List.length_drop, List.length_replicate, List.length_set, mkG_len] <;> omega) | fail) only [push_cast, if_pos, decide_eq_true, decide_eq_false, h, hpi, hs, wr_id, hbig, he, simprocAttr, -Nat.reduceSubDiff]) <;> (repeat (refine (aw_draw (by kernel_rfl)).2 ?_; simp -dsimp (disch := first | omega | (simp only [h, hpi, hs, wr_id, hbig, he, List.length_cons, List.length_nil, List.length_map, List.length_append, List.length_take, List.length_drop, List.length_replicate, List.length_set, mkG_len] <;> omega) | fail) only [push_cast, if_pos, decide_eq_true, decide_eq_false, h, hpi, hs, wr_id, hbig, he, simprocAttr, -Nat.reduceSubDiff]))
      refine ih (i + 1) _ (by omega) ⟨h, by omega, hq⟩ ?_
      rw [hjt]
      simp -dsimp (disch := first | omega | (simp only [wr_id, List.length_cons, List.length_nil, List.length_map, List.length_append, List.length_take, List.length_drop, List.length_replicate, List.length_set, mkG_len] <;> omega) | fail) only [push_cast, if_pos, decide_eq_true, decide_eq_false, wr_id, simprocAttr, -Nat.reduceSubDiff]
    · have hM2 := hno (by rw [← hq, show decide (sumS p w = s) = false from decide_eq_false he]; rfl)
      (simp -dsimp (disch := first | omega | (simp only [h, hpi, hs, wr_id, hbig, List.length_cons, List.length_nil, List.length_map, List.length_append, List.length_take, List.length_drop, List.length_replicate, List.length_set, mkG_len] <;> omega) | fail) only [push_cast, if_pos, decide_eq_true, decide_eq_false, h, hpi, hs, wr_id, hbig, simprocAttr, -Nat.reduceSubDiff]) <;> (repeat (refine (aw_draw (by kernel_rfl)).2 ?_; simp -dsimp (disch := first | omega | (simp only [h, hpi, hs, wr_id, hbig, List.length_cons, List.length_nil, List.length_map, List.length_append, List.length_take, List.length_drop, List.length_replicate, List.length_set, mkG_len] <;> omega) | fail) only [push_cast, if_pos, decide_eq_true, decide_eq_false, h, hpi, hs, wr_id, hbig, simprocAttr, -Nat.reduceSubDiff]))
      refine callC (implSum p w (by omega)) ?_
      (simp -dsimp (disch := first | omega | (simp only [h, hpi, hs, hM2, wr_id, hbig, he, List.length_cons, List.length_nil, List.length_map, List.length_append, List.length_take, List.length_drop, List.length_replicate, List.length_set, mkG_len] <;> omega) | fail) only [push_cast, if_pos, decide_eq_true, decide_eq_false, h, hpi, hs, hM2, wr_id, hbig, he, simprocAttr, -Nat.reduceSubDiff]) <;> (repeat (refine (aw_draw (by kernel_rfl)).2 ?_; simp -dsimp (disch := first | omega | (simp only [h, hpi, hs, hM2, wr_id, hbig, he, List.length_cons, List.length_nil, List.length_map, List.length_append, List.length_take, List.length_drop, List.length_replicate, List.length_set, mkG_len] <;> omega) | fail) only [push_cast, if_pos, decide_eq_true, decide_eq_false, h, hpi, hs, hM2, wr_id, hbig, he, simprocAttr, -Nat.reduceSubDiff]))
      rfl
  · rw [List.take_of_length_le (by omega : ps.length ≤ i)] at hj
    rw [List.drop_eq_nil_of_le (by omega : ps.length ≤ i), List.drop_eq_nil_of_le (by omega), bldB] at hq
    have hjs : (stB (jb ps)).size = (jb ps).length := stB_size _
    (simp -dsimp (disch := first | omega | (simp only [h, List.length_cons, List.length_nil, List.length_map, List.length_append, List.length_take, List.length_drop, List.length_replicate, List.length_set, mkG_len] <;> omega) | fail) only [push_cast, if_pos, decide_eq_true, decide_eq_false, h, simprocAttr, -Nat.reduceSubDiff]) <;> (repeat (refine (aw_draw (by kernel_rfl)).2 ?_; simp -dsimp (disch := first | omega | (simp only [h, List.length_cons, List.length_nil, List.length_map, List.length_append, List.length_take, List.length_drop, List.length_replicate, List.length_set, mkG_len] <;> omega) | fail) only [push_cast, if_pos, decide_eq_true, decide_eq_false, h, simprocAttr, -Nat.reduceSubDiff]))
    refine callC (joinEm ps (by omega) (by omega)) ?_
    rw [show (⟨(jb ps).toArray⟩ : Str) = stB (jb ps) from rfl]
    by_cases hz : ((jb ps).length : Int) = l.sz
    rotate_left
    · rw [build_no (.inr (.inr (.inr (.inl hz))))] at hM
      subst hM
      (simp -dsimp (disch := first | omega | (simp only [h, hjs, hz, List.length_cons, List.length_nil, List.length_map, List.length_append, List.length_take, List.length_drop, List.length_replicate, List.length_set, mkG_len] <;> omega) | fail) only [push_cast, if_pos, decide_eq_true, decide_eq_false, h, hjs, hz, simprocAttr, -Nat.reduceSubDiff]) <;> (repeat (refine (aw_draw (by kernel_rfl)).2 ?_; simp -dsimp (disch := first | omega | (simp only [h, hjs, hz, List.length_cons, List.length_nil, List.length_map, List.length_append, List.length_take, List.length_drop, List.length_replicate, List.length_set, mkG_len] <;> omega) | fail) only [push_cast, if_pos, decide_eq_true, decide_eq_false, h, hjs, hz, simprocAttr, -Nat.reduceSubDiff]))
      rfl
    (simp -dsimp (disch := first | omega | (simp only [h, hjs, hz, List.length_cons, List.length_nil, List.length_map, List.length_append, List.length_take, List.length_drop, List.length_replicate, List.length_set, mkG_len] <;> omega) | fail) only [push_cast, if_pos, decide_eq_true, decide_eq_false, h, hjs, hz, simprocAttr, -Nat.reduceSubDiff]) <;> (repeat (refine (aw_draw (by kernel_rfl)).2 ?_; simp -dsimp (disch := first | omega | (simp only [h, hjs, hz, List.length_cons, List.length_nil, List.length_map, List.length_append, List.length_take, List.length_drop, List.length_replicate, List.length_set, mkG_len] <;> omega) | fail) only [push_cast, if_pos, decide_eq_true, decide_eq_false, h, hjs, hz, simprocAttr, -Nat.reduceSubDiff]))
    refine callC (implDescribe (stB (jb ps)) w (by omega)) ?_
    (simp -dsimp (disch := first | omega | (simp only [h, hjs, hz, List.length_cons, List.length_nil, List.length_map, List.length_append, List.length_take, List.length_drop, List.length_replicate, List.length_set, mkG_len] <;> omega) | fail) only [push_cast, if_pos, decide_eq_true, decide_eq_false, h, hjs, hz, simprocAttr, -Nat.reduceSubDiff]) <;> (repeat (refine (aw_draw (by kernel_rfl)).2 ?_; simp -dsimp (disch := first | omega | (simp only [h, hjs, hz, List.length_cons, List.length_nil, List.length_map, List.length_append, List.length_take, List.length_drop, List.length_replicate, List.length_set, mkG_len] <;> omega) | fail) only [push_cast, if_pos, decide_eq_true, decide_eq_false, h, hjs, hz, simprocAttr, -Nat.reduceSubDiff]))
    refine callC (sameList (descL (stB (jb ps)) w).1 l hl1) ?_
    by_cases he : (descL (stB (jb ps)) w).1 = l
    · have hM : M = (stB (jb ps), true) := by rw [hM]; unfold buildF; rw [if_pos ⟨hok, hn, by rw [← hR, ← hq], hz, he⟩]
      subst hM
      (simp -dsimp (disch := first | omega | (simp only [h, hjs, hz, he, List.length_cons, List.length_nil, List.length_map, List.length_append, List.length_take, List.length_drop, List.length_replicate, List.length_set, mkG_len] <;> omega) | fail) only [push_cast, if_pos, decide_eq_true, decide_eq_false, h, hjs, hz, he, simprocAttr, -Nat.reduceSubDiff]) <;> (repeat (refine (aw_draw (by kernel_rfl)).2 ?_; simp -dsimp (disch := first | omega | (simp only [h, hjs, hz, he, List.length_cons, List.length_nil, List.length_map, List.length_append, List.length_take, List.length_drop, List.length_replicate, List.length_set, mkG_len] <;> omega) | fail) only [push_cast, if_pos, decide_eq_true, decide_eq_false, h, hjs, hz, he, simprocAttr, -Nat.reduceSubDiff]))
    · rw [build_no (.inr (.inr (.inr (.inr he))))] at hM
      subst hM
      (simp -dsimp (disch := first | omega | (simp only [h, hjs, hz, he, List.length_cons, List.length_nil, List.length_map, List.length_append, List.length_take, List.length_drop, List.length_replicate, List.length_set, mkG_len] <;> omega) | fail) only [push_cast, if_pos, decide_eq_true, decide_eq_false, h, hjs, hz, he, simprocAttr, -Nat.reduceSubDiff]) <;> (repeat (refine (aw_draw (by kernel_rfl)).2 ?_; simp -dsimp (disch := first | omega | (simp only [h, hjs, hz, he, List.length_cons, List.length_nil, List.length_map, List.length_append, List.length_take, List.length_drop, List.length_replicate, List.length_set, mkG_len] <;> omega) | fail) only [push_cast, if_pos, decide_eq_true, decide_eq_false, h, hjs, hz, he, simprocAttr, -Nat.reduceSubDiff]))
      rfl
def E23 : Env := { T := T0, kp := look [(0, [0, 1, 2]), (1, [1, 2, 3]), (2, []), (3, [1, 2, 3]), (4, [1, 2, 3, 8]), (5, [1, 2, 3, 8, 9]), (6, [1, 2, 3, 8, 9]), (7, [1, 2, 3, 8, 9]), (8, []), (9, [1, 2, 3, 8, 9]), (10, [2, 3, 8]), (11, []), (12, [8])], dp := look2 [(7, [[], [], [0, 1], [0, 1, 2], [], [0, 1, 2, 3, 4], [], [6], [], [6, 7, 8], [6, 7, 8, 9], [0, 1, 2, 3, 4, 5, 6, 7, 8, 9, 10], [0, 1, 2, 3, 4, 5, 6, 7, 8, 9, 10, 11], [0, 1, 2, 3, 4, 5, 6, 7, 8, 9, 10, 11, 12], [0, 1, 2, 3, 4, 5, 6, 7, 8, 9, 10, 11, 12, 13], [0, 1, 2, 3, 4, 5, 6, 7, 8, 9, 10, 11, 12], [0, 1, 2, 3, 4, 5, 6, 7, 8, 9, 10, 11, 12], [0, 1, 2, 3, 4, 5, 6, 7, 8, 9, 10, 11, 12, 15, 16], [0, 1, 2, 3, 4, 5, 6, 7, 8, 9, 10, 11, 12, 15, 16, 17], [0, 1, 2, 3, 4, 5, 6, 7, 8, 9, 10, 11, 12, 15, 16, 17, 18], [0, 1, 2, 3, 4, 5, 6, 7, 8, 9, 10, 11, 12, 13, 14, 15, 16, 17, 18, 19], [0, 1, 2, 3, 4, 5, 6, 7, 8, 9, 10, 11, 12, 13, 14, 15, 16, 17, 18, 19, 20], [0, 1, 2, 3, 4, 5, 6, 7, 8, 9, 10, 11, 12, 13, 14, 15, 16, 17, 18, 19, 20, 21]]), (10, [[], [0], [], [2], [0, 1, 2, 3], [0, 1, 2, 3, 4], [0, 1, 2, 3, 4, 5], [0, 1, 2, 3, 4, 5, 6], [0, 1, 2, 3, 4, 5], [0, 1, 2, 3, 4, 5, 6, 7, 8], [0, 1, 2, 3, 4, 5], [0, 1, 2, 3, 4, 5, 6, 7, 8, 9, 10], [0, 1, 2, 3, 4, 5, 6, 7, 8, 9, 10, 11], [0, 1, 2, 3, 4, 5, 6, 7, 8, 9, 10, 11, 12]])] }
attribute [local push_cast] E23
set_option maxRecDepth 20000 in
set_option maxHeartbeats 2000000 in
theorem specBuild (l : Lst) (ps : List Str) (w : Int) (hl : okLst l) (hp : okL okStr ps) : Does Tryz.prog 23 [.ag (lstC false l), .sl false 1 (ps.map strR), .sc (.int .i64 w)] (.tu [.sc (.string (buildF l ps w).1), .sc (.bool (buildF l ps w).2)], []) := by
  refine does_of (E := E23) (rs := [.tmp 6, .tmp 7]) (lent := []) tOk rfl Tryz.func23 rfl (by decide) rfl rfl (Nat.le_of_ble_eq_true rfl) (Nat.le_of_ble_eq_true rfl) ?_
  obtain ⟨M, hM⟩ : ∃ M, M = buildF l ps w := ⟨_, rfl⟩
  rw [← hM]
  have hl1 := hl.1
  have hp1 := hp.1
  (simp -dsimp (disch := first | omega | (simp only [List.length_cons, List.length_nil, List.length_map, List.length_append, List.length_take, List.length_drop, List.length_replicate, List.length_set, mkG_len] <;> omega) | fail) only [push_cast, if_pos, decide_eq_true, decide_eq_false, simprocAttr, -Nat.reduceSubDiff]) <;> (repeat (refine (aw_draw (by kernel_rfl)).2 ?_; simp -dsimp (disch := first | omega | (simp only [List.length_cons, List.length_nil, List.length_map, List.length_append, List.length_take, List.length_drop, List.length_replicate, List.length_set, mkG_len] <;> omega) | fail) only [push_cast, if_pos, decide_eq_true, decide_eq_false, simprocAttr, -Nat.reduceSubDiff]))
  refine callC (l3Ok l w hl1) ?_
  cases hok : okLs l w with
  | false =>
    rw [build_no (.inl hok)] at hM
    subst hM
    (simp -dsimp (disch := first | omega | (simp only [List.length_cons, List.length_nil, List.length_map, List.length_append, List.length_take, List.length_drop, List.length_replicate, List.length_set, mkG_len] <;> omega) | fail) only [push_cast, if_pos, decide_eq_true, decide_eq_false, simprocAttr, -Nat.reduceSubDiff]) <;> (repeat (refine (aw_draw (by kernel_rfl)).2 ?_; simp -dsimp (disch := first | omega | (simp only [List.length_cons, List.length_nil, List.length_map, List.length_append, List.length_take, List.length_drop, List.length_replicate, List.length_set, mkG_len] <;> omega) | fail) only [push_cast, if_pos, decide_eq_true, decide_eq_false, simprocAttr, -Nat.reduceSubDiff]))
    rfl
  | true =>
  by_cases hn : ps.length = l.S.length
  rotate_left
  · rw [build_no (.inr (.inl hn))] at hM
    subst hM
    (simp -dsimp (disch := first | omega | (simp only [hn, List.length_cons, List.length_nil, List.length_map, List.length_append, List.length_take, List.length_drop, List.length_replicate, List.length_set, mkG_len] <;> omega) | fail) only [push_cast, if_pos, decide_eq_true, decide_eq_false, hn, simprocAttr, -Nat.reduceSubDiff]) <;> (repeat (refine (aw_draw (by kernel_rfl)).2 ?_; simp -dsimp (disch := first | omega | (simp only [hn, List.length_cons, List.length_nil, List.length_map, List.length_append, List.length_take, List.length_drop, List.length_replicate, List.length_set, mkG_len] <;> omega) | fail) only [push_cast, if_pos, decide_eq_true, decide_eq_false, hn, simprocAttr, -Nat.reduceSubDiff]))
    rfl
  obtain ⟨R, hR⟩ : ∃ R, R = bldB w 0 ps l.S := ⟨_, rfl⟩
  have hno : R = false → M = (em, false) := fun q => by rw [hM, build_no (.inr (.inr (.inl (hR ▸ q))))]
  (simp -dsimp (disch := first | omega | (simp only [hn, List.length_cons, List.length_nil, List.length_map, List.length_append, List.length_take, List.length_drop, List.length_replicate, List.length_set, mkG_len] <;> omega) | fail) only [push_cast, if_pos, decide_eq_true, decide_eq_false, hn, simprocAttr, -Nat.reduceSubDiff]) <;> (repeat (refine (aw_draw (by kernel_rfl)).2 ?_; simp -dsimp (disch := first | omega | (simp only [hn, List.length_cons, List.length_nil, List.length_map, List.length_append, List.length_take, List.length_drop, List.length_replicate, List.length_set, mkG_len] <;> omega) | fail) only [push_cast, if_pos, decide_eq_true, decide_eq_false, hn, simprocAttr, -Nat.reduceSubDiff]))
  refine loop_ind (α := Nat) (fun i => i ≤ l.S.length ∧ (jb (ps.take i)).length ≤ 3000 ∧ bldB w (jb (ps.take i)).length (ps.drop i) (l.S.drop i) = R)
    (fun i => ⟨[(1, .sl false 1 (ps.map strR)), (2, .sc (.int .i64 w)), (3, .pt 1 0 0), (8, .ow 2 0 (jb (ps.take i)).length), (9, .sc (.int .i64 i))], [(1, .bx (lstC false l)), (2, .ar 1 0 ((jb (ps.take i)).map byteRow))], 3⟩) (fun i => l.S.length - i) 0 ⟨Nat.zero_le _, by simp [jb], by rw [hR]; simp [jb]⟩ ?_ ?_
  · simp -dsimp (disch := first | omega | (simp only [List.take_zero, jb, List.flatMap_nil, List.length_cons, List.length_nil, List.length_map, List.length_append, List.length_take, List.length_drop, List.length_replicate, List.length_set, mkG_len] <;> omega) | fail) only [push_cast, if_pos, decide_eq_true, decide_eq_false, List.take_zero, jb, List.flatMap_nil, simprocAttr, -Nat.reduceSubDiff]
  rintro i ⟨hi, hj, hq⟩ ih
  by_cases h : i < l.S.length
  · obtain ⟨s, hs⟩ := ex_get h
    obtain ⟨p, hpi⟩ := ex_get (show i < ps.length by omega)
    have hps : p.size ≤ 2097152 := hp.2 p (List.mem_of_getElem? hpi)
    have hst : jb (ps.take (i + 1)) = jb (ps.take i) ++ bt p := by rw [take_step hpi, jb_app, jb_one]
    rw [drop_step hs, drop_step hpi, bldB] at hq
    obtain ⟨B, hB⟩ : ∃ B, B = jb (ps.take i) := ⟨_, rfl⟩
    rw [← hB] at hj hst hq ⊢
    have hhp : ps.length = l.S.length := hn
    by_cases he : sumS p w = s
    rotate_left
    · have hM2 := hno (by rw [← hq, show decide (sumS p w = s) = false from decide_eq_false he]; simp)
      (simp -dsimp (disch := first | omega | (simp only [h, hhp, hpi, hs, List.length_cons, List.length_nil, List.length_map, List.length_append, List.length_take, List.length_drop, List.length_replicate, List.length_set, mkG_len] <;> omega) | fail) only [push_cast, if_pos, decide_eq_true, decide_eq_false, h, hhp, hpi, hs, simprocAttr, -Nat.reduceSubDiff]) <;> (repeat (refine (aw_draw (by kernel_rfl)).2 ?_; simp -dsimp (disch := first | omega | (simp only [h, hhp, hpi, hs, List.length_cons, List.length_nil, List.length_map, List.length_append, List.length_take, List.length_drop, List.length_replicate, List.length_set, mkG_len] <;> omega) | fail) only [push_cast, if_pos, decide_eq_true, decide_eq_false, h, hhp, hpi, hs, simprocAttr, -Nat.reduceSubDiff]))
      refine callC (specSum p w (by omega)) ?_
      (simp -dsimp (disch := first | omega | (simp only [h, hhp, hpi, hs, hM2, he, List.length_cons, List.length_nil, List.length_map, List.length_append, List.length_take, List.length_drop, List.length_replicate, List.length_set, mkG_len] <;> omega) | fail) only [push_cast, if_pos, decide_eq_true, decide_eq_false, h, hhp, hpi, hs, hM2, he, simprocAttr, -Nat.reduceSubDiff]) <;> (repeat (refine (aw_draw (by kernel_rfl)).2 ?_; simp -dsimp (disch := first | omega | (simp only [h, hhp, hpi, hs, hM2, he, List.length_cons, List.length_nil, List.length_map, List.length_append, List.length_take, List.length_drop, List.length_replicate, List.length_set, mkG_len] <;> omega) | fail) only [push_cast, if_pos, decide_eq_true, decide_eq_false, h, hhp, hpi, hs, hM2, he, simprocAttr, -Nat.reduceSubDiff]))
      rfl
    rw [show decide (sumS p w = s) = true from decide_eq_true he] at hq
    by_cases hbig : 3000 < B.length + p.size
    · have hM2 := hno (by rw [← hq, show decide (B.length + p.size ≤ 3000) = false from decide_eq_false (by omega)]; rfl)
      (simp -dsimp (disch := first | omega | (simp only [h, hhp, hpi, hs, List.length_cons, List.length_nil, List.length_map, List.length_append, List.length_take, List.length_drop, List.length_replicate, List.length_set, mkG_len] <;> omega) | fail) only [push_cast, if_pos, decide_eq_true, decide_eq_false, h, hhp, hpi, hs, simprocAttr, -Nat.reduceSubDiff]) <;> (repeat (refine (aw_draw (by kernel_rfl)).2 ?_; simp -dsimp (disch := first | omega | (simp only [h, hhp, hpi, hs, List.length_cons, List.length_nil, List.length_map, List.length_append, List.length_take, List.length_drop, List.length_replicate, List.length_set, mkG_len] <;> omega) | fail) only [push_cast, if_pos, decide_eq_true, decide_eq_false, h, hhp, hpi, hs, simprocAttr, -Nat.reduceSubDiff]))
      refine callC (specSum p w (by omega)) ?_
      (simp -dsimp (disch := first | omega | (simp only [h, hhp, hpi, hs, hM2, he, wr_id, hbig, List.length_cons, List.length_nil, List.length_map, List.length_append, List.length_take, List.length_drop, List.length_replicate, List.length_set, mkG_len] <;> omega) | fail) only [push_cast, if_pos, decide_eq_true, decide_eq_false, h, hhp, hpi, hs, hM2, he, wr_id, hbig, simprocAttr, -Nat.reduceSubDiff]) <;> (repeat (refine (aw_draw (by kernel_rfl)).2 ?_; simp -dsimp (disch := first | omega | (simp only [h, hhp, hpi, hs, hM2, he, wr_id, hbig, List.length_cons, List.length_nil, List.length_map, List.length_append, List.length_take, List.length_drop, List.length_replicate, List.length_set, mkG_len] <;> omega) | fail) only [push_cast, if_pos, decide_eq_true, decide_eq_false, h, hhp, hpi, hs, hM2, he, wr_id, hbig, simprocAttr, -Nat.reduceSubDiff]))
      rfl
    rw [show decide (B.length + p.size ≤ 3000) = true from decide_eq_true (by omega), Bool.true_and, Bool.true_and, show B.length + p.size = (B ++ bt p).length by rw [List.length_append, bt_len], ← hst] at hq
    (simp -dsimp (disch := first | omega | (simp only [h, hhp, hpi, hs, List.length_cons, List.length_nil, List.length_map, List.length_append, List.length_take, List.length_drop, List.length_replicate, List.length_set, mkG_len] <;> omega) | fail) only [push_cast, if_pos, decide_eq_true, decide_eq_false, h, hhp, hpi, hs, simprocAttr, -Nat.reduceSubDiff]) <;> (repeat (refine (aw_draw (by kernel_rfl)).2 ?_; simp -dsimp (disch := first | omega | (simp only [h, hhp, hpi, hs, List.length_cons, List.length_nil, List.length_map, List.length_append, List.length_take, List.length_drop, List.length_replicate, List.length_set, mkG_len] <;> omega) | fail) only [push_cast, if_pos, decide_eq_true, decide_eq_false, h, hhp, hpi, hs, simprocAttr, -Nat.reduceSubDiff]))
    refine callC (specSum p w (by omega)) ?_
    (simp -dsimp (disch := first | omega | (simp only [h, hhp, hpi, hs, he, wr_id, hbig, flat_byte, bt_len, List.length_cons, List.length_nil, List.length_map, List.length_append, List.length_take, List.length_drop, List.length_replicate, List.length_set, mkG_len] <;> omega) | fail) only [push_cast, if_pos, decide_eq_true, decide_eq_false, h, hhp, hpi, hs, he, wr_id, hbig, flat_byte, bt_len, simprocAttr, -Nat.reduceSubDiff]) <;> (repeat (refine (aw_draw (by kernel_rfl)).2 ?_; simp -dsimp (disch := first | omega | (simp only [h, hhp, hpi, hs, he, wr_id, hbig, flat_byte, bt_len, List.length_cons, List.length_nil, List.length_map, List.length_append, List.length_take, List.length_drop, List.length_replicate, List.length_set, mkG_len] <;> omega) | fail) only [push_cast, if_pos, decide_eq_true, decide_eq_false, h, hhp, hpi, hs, he, wr_id, hbig, flat_byte, bt_len, simprocAttr, -Nat.reduceSubDiff]))
    refine ih (i + 1) _ (by omega) ⟨h, by rw [hst, List.length_append, bt_len]; omega, hq⟩ ?_
    rw [hst]
    simp -dsimp (disch := first | omega | (simp only [wr_id, List.map_append, List.length_append, bt_len, List.length_cons, List.length_nil, List.length_map, List.length_append, List.length_take, List.length_drop, List.length_replicate, List.length_set, mkG_len] <;> omega) | fail) only [push_cast, if_pos, decide_eq_true, decide_eq_false, wr_id, List.map_append, List.length_append, bt_len, simprocAttr, -Nat.reduceSubDiff]
  · rw [List.take_of_length_le (by omega : ps.length ≤ i)] at hj ⊢
    rw [List.drop_eq_nil_of_le (by omega : ps.length ≤ i), List.drop_eq_nil_of_le (by omega), bldB] at hq
    have hjs : (stB (jb ps)).size = (jb ps).length := stB_size _
    have hhp : ps.length = l.S.length := hn
    by_cases hz : ((jb ps).length : Int) = l.sz
    rotate_left
    · rw [build_no (.inr (.inr (.inr (.inl hz))))] at hM
      subst hM
      (simp -dsimp (disch := first | omega | (simp only [h, hhp, hz, List.length_cons, List.length_nil, List.length_map, List.length_append, List.length_take, List.length_drop, List.length_replicate, List.length_set, mkG_len] <;> omega) | fail) only [push_cast, if_pos, decide_eq_true, decide_eq_false, h, hhp, hz, simprocAttr, -Nat.reduceSubDiff]) <;> (repeat (refine (aw_draw (by kernel_rfl)).2 ?_; simp -dsimp (disch := first | omega | (simp only [h, hhp, hz, List.length_cons, List.length_nil, List.length_map, List.length_append, List.length_take, List.length_drop, List.length_replicate, List.length_set, mkG_len] <;> omega) | fail) only [push_cast, if_pos, decide_eq_true, decide_eq_false, h, hhp, hz, simprocAttr, -Nat.reduceSubDiff]))
      rfl
    (simp -dsimp (disch := first | omega | (simp only [h, hhp, hz, bytesOf_byte, List.length_cons, List.length_nil, List.length_map, List.length_append, List.length_take, List.length_drop, List.length_replicate, List.length_set, mkG_len] <;> omega) | fail) only [push_cast, if_pos, decide_eq_true, decide_eq_false, h, hhp, hz, bytesOf_byte, simprocAttr, -Nat.reduceSubDiff]) <;> (repeat (refine (aw_draw (by kernel_rfl)).2 ?_; simp -dsimp (disch := first | omega | (simp only [h, hhp, hz, bytesOf_byte, List.length_cons, List.length_nil, List.length_map, List.length_append, List.length_take, List.length_drop, List.length_replicate, List.length_set, mkG_len] <;> omega) | fail) only [push_cast, if_pos, decide_eq_true, decide_eq_false, h, hhp, hz, bytesOf_byte, simprocAttr, -Nat.reduceSubDiff]))
    rw [show (⟨(jb ps).toArray⟩ : Str) = stB (jb ps) from rfl]
    refine callC (specDescribe (stB (jb ps)) w (by omega)) ?_
    (simp -dsimp (disch := first | omega | (simp only [h, hhp, hz, List.length_cons, List.length_nil, List.length_map, List.length_append, List.length_take, List.length_drop, List.length_replicate, List.length_set, mkG_len] <;> omega) | fail) only [push_cast, if_pos, decide_eq_true, decide_eq_false, h, hhp, hz, simprocAttr, -Nat.reduceSubDiff]) <;> (repeat (refine (aw_draw (by kernel_rfl)).2 ?_; simp -dsimp (disch := first | omega | (simp only [h, hhp, hz, List.length_cons, List.length_nil, List.length_map, List.length_append, List.length_take, List.length_drop, List.length_replicate, List.length_set, mkG_len] <;> omega) | fail) only [push_cast, if_pos, decide_eq_true, decide_eq_false, h, hhp, hz, simprocAttr, -Nat.reduceSubDiff]))
    refine callC (l3Same (descL (stB (jb ps)) w).1 l hl1) ?_
    by_cases he : (descL (stB (jb ps)) w).1 = l
    · have hM : M = (stB (jb ps), true) := by rw [hM]; unfold buildF; rw [if_pos ⟨hok, hn, by rw [← hR, ← hq], hz, he⟩]
      subst hM
      (simp -dsimp (disch := first | omega | (simp only [h, hhp, hz, he, bytesOf_byte, List.length_cons, List.length_nil, List.length_map, List.length_append, List.length_take, List.length_drop, List.length_replicate, List.length_set, mkG_len] <;> omega) | fail) only [push_cast, if_pos, decide_eq_true, decide_eq_false, h, hhp, hz, he, bytesOf_byte, simprocAttr, -Nat.reduceSubDiff]) <;> (repeat (refine (aw_draw (by kernel_rfl)).2 ?_; simp -dsimp (disch := first | omega | (simp only [h, hhp, hz, he, bytesOf_byte, List.length_cons, List.length_nil, List.length_map, List.length_append, List.length_take, List.length_drop, List.length_replicate, List.length_set, mkG_len] <;> omega) | fail) only [push_cast, if_pos, decide_eq_true, decide_eq_false, h, hhp, hz, he, bytesOf_byte, simprocAttr, -Nat.reduceSubDiff]))
      rfl
    · rw [build_no (.inr (.inr (.inr (.inr he))))] at hM
      subst hM
      (simp -dsimp (disch := first | omega | (simp only [h, hhp, hz, he, List.length_cons, List.length_nil, List.length_map, List.length_append, List.length_take, List.length_drop, List.length_replicate, List.length_set, mkG_len] <;> omega) | fail) only [push_cast, if_pos, decide_eq_true, decide_eq_false, h, hhp, hz, he, simprocAttr, -Nat.reduceSubDiff]) <;> (repeat (refine (aw_draw (by kernel_rfl)).2 ?_; simp -dsimp (disch := first | omega | (simp only [h, hhp, hz, he, List.length_cons, List.length_nil, List.length_map, List.length_append, List.length_take, List.length_drop, List.length_replicate, List.length_set, mkG_len] <;> omega) | fail) only [push_cast, if_pos, decide_eq_true, decide_eq_false, h, hhp, hz, he, simprocAttr, -Nat.reduceSubDiff]))
      rfl
end Go.Proofs.YtgkncgiglmdnaaaGreatDoor.Mx

/- Drawn lists: widths, bent texts, spoilt lists. -/
namespace Go.Proofs.YtgkncgiglmdnaaaGreatDoor.Mx
set_option linter.all false
open Go Go.RowKit Go.Proofs
set_option linter.unusedSimpArgs false
theorem pick_nat (c : List Int) (p n : Int) (hc : okCode c) (hp : 0 ≤ p) (hp2 : p ≤ 900000) (hn : 1 ≤ n) (hn2 : n ≤ 1000000) : ∃ N : Nat, (N : Int) < n ∧ Does Tryz.prog 70 [.pb true (rdC1 c p), .sc (.int .i64 n)] (.sc (.int .i64 N), [some (.pb true (rdC1 c (p + 1)))]) := by
  obtain ⟨z0, z1⟩ := pickF_nn hc p n hp (by omega)
  obtain ⟨N, hN⟩ := nat_of' z0
  exact ⟨N, by rw [← hN]; exact z1 hn, hN ▸ pick c p n hc hp (by omega) hn2⟩
theorem lrep2 {α : Type} (a : α) : List.replicate 2 a = [a, a] := rfl
theorem lrep3 {α : Type} (a : α) : List.replicate 3 a = [a, a, a] := rfl
theorem lrep5 {α : Type} (a : α) : List.replicate 5 a = [a, a, a, a, a] := rfl
theorem lrep6 {α : Type} (a : α) : List.replicate 6 a = [a, a, a, a, a, a] := rfl
/-- the width drawn -/
def wdR (c : List Int) (p : Int) (r : Ans) : Prop := ∃ w : Int, r = (.sc (.int .i64 w), [some (.pb true (rdC1 c (p + 1)))]) ∧ 1 ≤ w ∧ w ≤ 8
def E71 : Env := { T := T0, kp := look [(0, [0]), (1, [0])], md := look3 [(1, 2, [1, 0])] }
attribute [local push_cast] E71
theorem l1DrawWidth (c : List Int) (p : Int) (hc : okCode c) (hp : 0 ≤ p) (hp2 : p ≤ 900000) : ∃ r, wdR c p r ∧ Does Tryz.prog 71 [.pb true (rdC1 c p)] r := by
  refine does_ex (E := E71) (rs := [.tmp 2]) (lent := [true]) tOk rfl Tryz.func71 rfl (by decide) rfl rfl (Nat.le_of_ble_eq_true rfl) (Nat.le_of_ble_eq_true rfl) ?_
  obtain ⟨N, hN, hd⟩ := pick_nat c p 6 hc hp hp2 (by omega) (by omega)
  (simp -dsimp (disch := first | omega | (simp only [List.length_cons, List.length_nil, List.length_map, List.length_append, List.length_take, List.length_drop, List.length_replicate, List.length_set, mkG_len] <;> omega) | fail) only [push_cast, if_pos, decide_eq_true, decide_eq_false, simprocAttr, -Nat.reduceSubDiff]) <;> (repeat (refine ex_draw (by kernel_rfl) ?_; simp -dsimp (disch := first | omega | (simp only [List.length_cons, List.length_nil, List.length_map, List.length_append, List.length_take, List.length_drop, List.length_replicate, List.length_set, mkG_len] <;> omega) | fail) only [push_cast, if_pos, decide_eq_true, decide_eq_false, simprocAttr, -Nat.reduceSubDiff]))
  refine ex_call hd ?_
  rcases (show N = 0 ∨ N = 1 ∨ N = 2 ∨ N = 3 ∨ N = 4 ∨ N = 5 by omega) with rfl | rfl | rfl | rfl | rfl | rfl
  all_goals
    (simp -dsimp (disch := first | omega | (simp only [lrep6, List.length_cons, List.length_nil, List.length_map, List.length_append, List.length_take, List.length_drop, List.length_replicate, List.length_set, mkG_len] <;> omega) | fail) only [push_cast, if_pos, decide_eq_true, decide_eq_false, lrep6, simprocAttr, -Nat.reduceSubDiff]) <;> (repeat (refine ex_draw (by kernel_rfl) ?_; simp -dsimp (disch := first | omega | (simp only [lrep6, List.length_cons, List.length_nil, List.length_map, List.length_append, List.length_take, List.length_drop, List.length_replicate, List.length_set, mkG_len] <;> omega) | fail) only [push_cast, if_pos, decide_eq_true, decide_eq_false, lrep6, simprocAttr, -Nat.reduceSubDiff]))
    exact ⟨_, ⟨_, rfl, by omega, by omega⟩, rfl⟩
/-- a text drawn -/
def txR (c : List Int) (p K B : Int) (r : Ans) : Prop := ∃ (t : Str) (p' : Int), r = (.sc (.string t), [some (.pb true (rdC1 c p'))]) ∧ (t.size : Int) ≤ B ∧ p ≤ p' ∧ p' ≤ p + K
theorem ext_le (s : Str) (a b : Nat) : (s.extract a b).size ≤ s.size := by
  rw [ext_cur, stB_size]; unfold curB
  rw [List.length_drop, List.length_take, bt_len]; omega
theorem sz1i (a : UInt8) : (⟨#[a]⟩ : ByteArray).size = 1 := rfl
def E93 : Env := { T := T0, kp := look [(0, [0, 1]), (1, [0, 1]), (2, [0, 1, 5]), (3, [0, 1, 5, 14]), (4, [0, 1, 5]), (5, [0, 1, 5, 14]), (6, [0, 1, 5]), (7, [0, 1, 5, 14]), (8, [0, 1, 5]), (9, [0, 1, 5]), (10, [0, 1, 5, 14]), (11, [0, 1, 5]), (12, [0, 1, 5]), (13, [0, 1, 5])], dp := look2 [(6, [[], [], [0, 1], [], [], [4], [3, 4, 5], [3, 4, 5, 6], [0, 1, 2, 3, 4, 5, 6, 7], [], [], [9, 10], [0, 1, 2, 3, 4, 5, 6, 7, 8, 9, 10, 11], [0, 1, 2, 3, 4, 5, 6, 7, 8, 9, 10, 11, 12]]), (9, [[], [], [0, 1], [], [], [4], [3, 4, 5], [0, 1, 2, 3, 4, 5, 6], [0, 1, 2, 3, 4, 5, 6, 7]]), (12, [[], [], [0, 1], [], [], [3, 4], [3, 4, 5], [], [7], [7, 8], [7, 8, 9], [3, 4, 5, 6, 7, 8, 9, 10], [3, 4, 5, 6, 7, 8, 9, 10, 11], [3, 4, 5, 6, 7, 8, 9, 10, 11, 12], [3, 4, 5, 6, 7, 8, 9, 10, 11, 12, 13], [0, 1, 2, 3, 4, 5, 6, 7, 8, 9, 10, 11, 12, 13, 14], [], [], [17], [16, 17, 18], [0, 1, 2, 3, 4, 5, 6, 7, 8, 9, 10, 11, 12, 13, 14, 15, 16, 17, 18, 19], [0, 1, 2, 3, 4, 5, 6, 7, 8, 9, 10, 11, 12, 13, 14, 15, 16, 17, 18, 19, 20]])], md := look3 [(1, 1, [1, 0]), (2, 1, [1, 0]), (6, 5, [1, 0]), (12, 8, [1, 0])] }
attribute [local push_cast] E93
set_option maxRecDepth 20000 in
set_option maxHeartbeats 1000000 in
theorem l1Bend (c : List Int) (p : Int) (s : Str) (hc : okCode c) (hp : 0 ≤ p) (hp2 : p ≤ 800000) (hs : s.size ≤ 100000) : ∃ r, txR c p 3 200010 r ∧ Does Tryz.prog 93 [.pb true (rdC1 c p), .sc (.string s)] r := by
  refine does_ex (E := E93) (rs := [.tmp 4]) (lent := [true]) tOk rfl Tryz.func93 rfl (by decide) rfl rfl (Nat.le_of_ble_eq_true rfl) (Nat.le_of_ble_eq_true rfl) ?_
  obtain ⟨N, hN, hd⟩ := pick_nat c p 256 hc hp (by omega) (by omega) (by omega)
  (simp -dsimp (disch := first | omega | (simp only [List.length_cons, List.length_nil, List.length_map, List.length_append, List.length_take, List.length_drop, List.length_replicate, List.length_set, mkG_len] <;> omega) | fail) only [push_cast, if_pos, decide_eq_true, decide_eq_false, simprocAttr, -Nat.reduceSubDiff]) <;> (repeat (refine ex_draw (by kernel_rfl) ?_; simp -dsimp (disch := first | omega | (simp only [List.length_cons, List.length_nil, List.length_map, List.length_append, List.length_take, List.length_drop, List.length_replicate, List.length_set, mkG_len] <;> omega) | fail) only [push_cast, if_pos, decide_eq_true, decide_eq_false, simprocAttr, -Nat.reduceSubDiff]))
  refine ex_call hd ?_
  obtain ⟨A, hA⟩ : ∃ A : Nat, A = N * (s.size + 1) / 256 := ⟨_, rfl⟩
  have hm : N * (s.size + 1) ≤ 255 * (s.size + 1) := Nat.mul_le_mul_right _ (by omega)
  have hA2 : A ≤ s.size := by rw [hA]; omega
  have e0 : (N : Int) * ((s.size : Int) + 1) = ((N * (s.size + 1) : Nat) : Int) := by rw [Int.natCast_mul]; rfl
  have e1 : ((N : Int) * ((s.size : Int) + 1)).tdiv 256 = (A : Int) := by rw [e0, hA]; rfl
  have e2 : wr .i64 ((N : Int) * ((s.size : Int) + 1)) = (N : Int) * ((s.size : Int) + 1) := by rw [e0]; exact wr_id (by omega) (by omega)
  clear e0 hm hA hN hd
  (simp -dsimp (disch := first | omega | (simp only [e2, e1, wr_id, List.length_cons, List.length_nil, List.length_map, List.length_append, List.length_take, List.length_drop, List.length_replicate, List.length_set, mkG_len] <;> omega) | fail) only [push_cast, if_pos, decide_eq_true, decide_eq_false, e2, e1, wr_id, simprocAttr, -Nat.reduceSubDiff]) <;> (repeat (refine ex_draw (by kernel_rfl) ?_; simp -dsimp (disch := first | omega | (simp only [e2, e1, wr_id, List.length_cons, List.length_nil, List.length_map, List.length_append, List.length_take, List.length_drop, List.length_replicate, List.length_set, mkG_len] <;> omega) | fail) only [push_cast, if_pos, decide_eq_true, decide_eq_false, e2, e1, wr_id, simprocAttr, -Nat.reduceSubDiff]))
  obtain ⟨k, hk, hd⟩ := pick_nat c (p + 1) 5 hc (by omega) (by omega) (by omega) (by omega)
  refine ex_call hd ?_
  clear e1 e2 hd
  have t1 : ((s.size : Int) - (A : Int)).toNat = s.size - A := by omega
  have t2 : A + (s.size - A) = s.size := by omega
  have x1 := ext_le s 0 A
  have x2 := ext_le s A s.size
  have x3 := ext_le s (A + 1) s.size
  have u1 : ((A : Int) + 1).toNat = A + 1 := by omega
  have u2 : ((s.size : Int) - ((A : Int) + 1)).toNat = s.size - (A + 1) := by omega
  have last : ∀ M : Ans, M = (.sc (.string (s ++ s.extract A s.size)), [some (.pb true (rdC1 c (p + 1 + 1)))]) → txR c p 3 200010 M := fun M q =>
    ⟨_, p + 1 + 1, q, by rw [ByteArray.size_append]; omega, by omega, by omega⟩
  rcases (show k = 0 ∨ k = 1 ∨ k = 2 ∨ k = 3 ∨ k = 4 by omega) with rfl | rfl | rfl | rfl | rfl
  · (simp -dsimp (disch := first | omega | (simp only [t1, t2, List.length_cons, List.length_nil, List.length_map, List.length_append, List.length_take, List.length_drop, List.length_replicate, List.length_set, mkG_len] <;> omega) | fail) only [push_cast, if_pos, decide_eq_true, decide_eq_false, t1, t2, simprocAttr, -Nat.reduceSubDiff]) <;> (repeat (refine ex_draw (by kernel_rfl) ?_; simp -dsimp (disch := first | omega | (simp only [t1, t2, List.length_cons, List.length_nil, List.length_map, List.length_append, List.length_take, List.length_drop, List.length_replicate, List.length_set, mkG_len] <;> omega) | fail) only [push_cast, if_pos, decide_eq_true, decide_eq_false, t1, t2, simprocAttr, -Nat.reduceSubDiff]))
    exact ⟨_, ⟨_, p + 1 + 1, rfl, by omega, by omega, by omega⟩, rfl⟩
  · (simp -dsimp (disch := first | omega | (simp only [lrep6, t1, t2, List.length_cons, List.length_nil, List.length_map, List.length_append, List.length_take, List.length_drop, List.length_replicate, List.length_set, mkG_len] <;> omega) | fail) only [push_cast, if_pos, decide_eq_true, decide_eq_false, lrep6, t1, t2, simprocAttr, -Nat.reduceSubDiff]) <;> (repeat (refine ex_draw (by kernel_rfl) ?_; simp -dsimp (disch := first | omega | (simp only [lrep6, t1, t2, List.length_cons, List.length_nil, List.length_map, List.length_append, List.length_take, List.length_drop, List.length_replicate, List.length_set, mkG_len] <;> omega) | fail) only [push_cast, if_pos, decide_eq_true, decide_eq_false, lrep6, t1, t2, simprocAttr, -Nat.reduceSubDiff]))
    obtain ⟨d, hd0, hd⟩ := pick_nat c (p + 1 + 1) 6 hc (by omega) (by omega) (by omega) (by omega)
    refine ex_call hd ?_
    rcases (show d = 0 ∨ d = 1 ∨ d = 2 ∨ d = 3 ∨ d = 4 ∨ d = 5 by omega) with rfl | rfl | rfl | rfl | rfl | rfl
    all_goals
      (simp -dsimp (disch := first | omega | (simp only [lrep6, t1, t2, sz1i, ByteArray.size_append, List.length_cons, List.length_nil, List.length_map, List.length_append, List.length_take, List.length_drop, List.length_replicate, List.length_set, mkG_len] <;> omega) | fail) only [push_cast, if_pos, decide_eq_true, decide_eq_false, lrep6, t1, t2, sz1i, ByteArray.size_append, simprocAttr, -Nat.reduceSubDiff]) <;> (repeat (refine ex_draw (by kernel_rfl) ?_; simp -dsimp (disch := first | omega | (simp only [lrep6, t1, t2, sz1i, ByteArray.size_append, List.length_cons, List.length_nil, List.length_map, List.length_append, List.length_take, List.length_drop, List.length_replicate, List.length_set, mkG_len] <;> omega) | fail) only [push_cast, if_pos, decide_eq_true, decide_eq_false, lrep6, t1, t2, sz1i, ByteArray.size_append, simprocAttr, -Nat.reduceSubDiff]))
      refine ⟨_, ⟨_, p + 1 + 1 + 1, rfl, ?_, by omega, by omega⟩, rfl⟩
      rw [ByteArray.size_append, ByteArray.size_append, sz1i]; omega
  · by_cases hlt : A < s.size
    · have u3 : A + 1 + (s.size - (A + 1)) = s.size := by omega
      (simp -dsimp (disch := first | omega | (simp only [t1, t2, u1, u2, u3, wr_id, List.length_cons, List.length_nil, List.length_map, List.length_append, List.length_take, List.length_drop, List.length_replicate, List.length_set, mkG_len] <;> omega) | fail) only [push_cast, if_pos, decide_eq_true, decide_eq_false, t1, t2, u1, u2, u3, wr_id, simprocAttr, -Nat.reduceSubDiff]) <;> (repeat (refine ex_draw (by kernel_rfl) ?_; simp -dsimp (disch := first | omega | (simp only [t1, t2, u1, u2, u3, wr_id, List.length_cons, List.length_nil, List.length_map, List.length_append, List.length_take, List.length_drop, List.length_replicate, List.length_set, mkG_len] <;> omega) | fail) only [push_cast, if_pos, decide_eq_true, decide_eq_false, t1, t2, u1, u2, u3, wr_id, simprocAttr, -Nat.reduceSubDiff]))
      refine ⟨_, ⟨_, p + 1 + 1, rfl, ?_, by omega, by omega⟩, rfl⟩
      rw [ByteArray.size_append]; omega
    · (simp -dsimp (disch := first | omega | (simp only [t1, t2, List.length_cons, List.length_nil, List.length_map, List.length_append, List.length_take, List.length_drop, List.length_replicate, List.length_set, mkG_len] <;> omega) | fail) only [push_cast, if_pos, decide_eq_true, decide_eq_false, t1, t2, simprocAttr, -Nat.reduceSubDiff]) <;> (repeat (refine ex_draw (by kernel_rfl) ?_; simp -dsimp (disch := first | omega | (simp only [t1, t2, List.length_cons, List.length_nil, List.length_map, List.length_append, List.length_take, List.length_drop, List.length_replicate, List.length_set, mkG_len] <;> omega) | fail) only [push_cast, if_pos, decide_eq_true, decide_eq_false, t1, t2, simprocAttr, -Nat.reduceSubDiff]))
      exact ⟨_, last _ rfl, rfl⟩
  · by_cases hlt : A < s.size
    · have u3 : A + 1 + (s.size - (A + 1)) = s.size := by omega
      obtain ⟨x, hx⟩ := ex_get (by rw [bt_len]; exact hlt : A < (bt s).length)
      obtain ⟨d, hd0, hd⟩ := pick_nat c (p + 1 + 1) 8 hc (by omega) (by omega) (by omega) (by omega)
      (simp -dsimp (disch := first | omega | (simp only [t1, t2, u1, u2, u3, wr_id, hx, List.length_cons, List.length_nil, List.length_map, List.length_append, List.length_take, List.length_drop, List.length_replicate, List.length_set, mkG_len] <;> omega) | fail) only [push_cast, if_pos, decide_eq_true, decide_eq_false, t1, t2, u1, u2, u3, wr_id, hx, simprocAttr, -Nat.reduceSubDiff]) <;> (repeat (refine ex_draw (by kernel_rfl) ?_; simp -dsimp (disch := first | omega | (simp only [t1, t2, u1, u2, u3, wr_id, hx, List.length_cons, List.length_nil, List.length_map, List.length_append, List.length_take, List.length_drop, List.length_replicate, List.length_set, mkG_len] <;> omega) | fail) only [push_cast, if_pos, decide_eq_true, decide_eq_false, t1, t2, u1, u2, u3, wr_id, hx, simprocAttr, -Nat.reduceSubDiff]))
      refine ex_call hd ?_
      have e64 : wr .u64 (d : Int) = d := by rw [wr_u64]; omega
      (simp -dsimp (disch := first | omega | (simp only [t1, t2, u1, u2, u3, wr_id, hx, e64, bytesOf, byteOf, sz1i, ByteArray.size_append, List.length_cons, List.length_nil, List.length_map, List.length_append, List.length_take, List.length_drop, List.length_replicate, List.length_set, mkG_len] <;> omega) | fail) only [push_cast, if_pos, decide_eq_true, decide_eq_false, t1, t2, u1, u2, u3, wr_id, hx, e64, bytesOf, byteOf, sz1i, ByteArray.size_append, simprocAttr, -Nat.reduceSubDiff]) <;> (repeat (refine ex_draw (by kernel_rfl) ?_; simp -dsimp (disch := first | omega | (simp only [t1, t2, u1, u2, u3, wr_id, hx, e64, bytesOf, byteOf, sz1i, ByteArray.size_append, List.length_cons, List.length_nil, List.length_map, List.length_append, List.length_take, List.length_drop, List.length_replicate, List.length_set, mkG_len] <;> omega) | fail) only [push_cast, if_pos, decide_eq_true, decide_eq_false, t1, t2, u1, u2, u3, wr_id, hx, e64, bytesOf, byteOf, sz1i, ByteArray.size_append, simprocAttr, -Nat.reduceSubDiff]))
      refine ⟨_, ⟨_, p + 1 + 1 + 1, rfl, ?_, by omega, by omega⟩, rfl⟩
      rw [ByteArray.size_append, ByteArray.size_append, sz1i]; omega
    · (simp -dsimp (disch := first | omega | (simp only [t1, t2, List.length_cons, List.length_nil, List.length_map, List.length_append, List.length_take, List.length_drop, List.length_replicate, List.length_set, mkG_len] <;> omega) | fail) only [push_cast, if_pos, decide_eq_true, decide_eq_false, t1, t2, simprocAttr, -Nat.reduceSubDiff]) <;> (repeat (refine ex_draw (by kernel_rfl) ?_; simp -dsimp (disch := first | omega | (simp only [t1, t2, List.length_cons, List.length_nil, List.length_map, List.length_append, List.length_take, List.length_drop, List.length_replicate, List.length_set, mkG_len] <;> omega) | fail) only [push_cast, if_pos, decide_eq_true, decide_eq_false, t1, t2, simprocAttr, -Nat.reduceSubDiff]))
      exact ⟨_, last _ rfl, rfl⟩
  · (simp -dsimp (disch := first | omega | (simp only [t1, t2, List.length_cons, List.length_nil, List.length_map, List.length_append, List.length_take, List.length_drop, List.length_replicate, List.length_set, mkG_len] <;> omega) | fail) only [push_cast, if_pos, decide_eq_true, decide_eq_false, t1, t2, simprocAttr, -Nat.reduceSubDiff]) <;> (repeat (refine ex_draw (by kernel_rfl) ?_; simp -dsimp (disch := first | omega | (simp only [t1, t2, List.length_cons, List.length_nil, List.length_map, List.length_append, List.length_take, List.length_drop, List.length_replicate, List.length_set, mkG_len] <;> omega) | fail) only [push_cast, if_pos, decide_eq_true, decide_eq_false, t1, t2, simprocAttr, -Nat.reduceSubDiff]))
    exact ⟨_, last _ rfl, rfl⟩
theorem drop1 (l : List Str) (n : Nat) (h : l.length ≤ 1 + n) : seg (l.map strR) 1 n = (l.drop 1).map strR := by
  unfold seg; rw [List.take_of_length_le (by simp; omega), List.map_drop]
/-- a list drawn -/
def liR (c : List Int) (p K : Int) (r : Ans) : Prop := ∃ (l : Lst) (p' : Int), r = (.ag (lstC true l), [some (.pb true (rdC1 c p'))]) ∧ (l.S.length ≤ 4000 ∧ ∀ x ∈ l.S, x.size ≤ 8) ∧ p ≤ p' ∧ p' ≤ p + K
def E92 : Env := { T := T0, kp := look [(0, [0, 1]), (1, [0, 3, 4]), (2, [0, 3, 4, 5]), (3, [0, 4, 5]), (4, [0, 4, 5]), (5, [0, 3, 4, 5, 15]), (6, [0, 3, 4, 5]), (7, [0, 4, 5, 15]), (8, [0, 4, 5]), (9, [0, 4, 5, 15]), (10, [0, 4, 5]), (11, [0, 4, 5]), (12, [0, 4, 5, 15]), (13, [0, 4, 5]), (14, [0, 4, 5, 6]), (15, [0, 4, 5, 6]), (16, [0, 4, 5])], dp := look2 [(1, [[], [0], [], [], [3], [2, 3, 4], [0, 1, 2, 3, 4, 5], [], [0, 1, 2, 3, 4, 5, 6, 7]]), (4, [[], [0], [], [2], [2, 3], [2, 3, 4], [0, 1, 2, 3, 4, 5], [0, 1, 2, 3, 4, 5, 6]]), (6, [[], [0], [0, 1], [0, 1, 2], [], [4], [0, 1, 2, 3, 4, 5], [0, 1, 2, 3, 4, 5, 6], [0, 1, 2, 3, 4, 5, 6, 7], [0, 1, 2, 3, 4, 5, 6, 7, 8]]), (8, [[], [0], [], [], [3], [2, 3, 4], [2, 3, 4, 5], [2, 3, 4, 5, 6], [0, 1, 2, 3, 4, 5, 6, 7], [0, 1, 2, 3, 4, 5, 6, 7, 8], [0, 1, 2, 3, 4, 5, 6, 7, 8, 9]])], md := look3 [(2, 1, [1, 0]), (6, 5, [1, 0]), (8, 4, [1, 0]), (13, 1, [1, 0])] }
attribute [local push_cast] E92
set_option maxRecDepth 20000 in
set_option maxHeartbeats 1000000 in
theorem l3Spoil (c : List Int) (p : Int) (l : Lst) (hc : okCode c) (hp : 0 ≤ p) (hp2 : p ≤ 800000) (hz : -1000000 ≤ l.sz ∧ l.sz ≤ 1000000) (hl : l.S.length ≤ 3500) (hs : ∀ x ∈ l.S, x.size ≤ 8) : ∃ r, liR c p 2 r ∧ Does Tryz.prog 92 [.pb true (rdC1 c p), .ag (lstC true l)] r := by
  refine does_ex (E := E92) (rs := [.cell 4 27]) (lent := [true]) tOk rfl Tryz.func92 rfl (by decide) rfl rfl (Nat.le_of_ble_eq_true rfl) (Nat.le_of_ble_eq_true rfl) ?_
  obtain ⟨k, hk, hd⟩ := pick_nat c p 5 hc hp (by omega) (by omega) (by omega)
  (simp -dsimp (disch := first | omega | (simp only [List.length_cons, List.length_nil, List.length_map, List.length_append, List.length_take, List.length_drop, List.length_replicate, List.length_set, mkG_len] <;> omega) | fail) only [push_cast, if_pos, decide_eq_true, decide_eq_false, simprocAttr, -Nat.reduceSubDiff]) <;> (repeat (refine ex_draw (by kernel_rfl) ?_; simp -dsimp (disch := first | omega | (simp only [List.length_cons, List.length_nil, List.length_map, List.length_append, List.length_take, List.length_drop, List.length_replicate, List.length_set, mkG_len] <;> omega) | fail) only [push_cast, if_pos, decide_eq_true, decide_eq_false, simprocAttr, -Nat.reduceSubDiff]))
  refine ex_call hd ?_
  clear hd
  rcases (show k = 0 ∨ k = 1 ∨ k = 2 ∨ k = 3 ∨ k = 4 by omega) with rfl | rfl | rfl | rfl | rfl
  · obtain ⟨d, hd0, hd⟩ := pick_nat c (p + 1) 5 hc (by omega) (by omega) (by omega) (by omega)
    have fin : ∀ z : Int, liR c p 2 (.ag [.sc (.int .i64 z), .sl true 1 (l.S.map strR)], [some (.pb true (rdC1 c (p + 1 + 1)))]) := fun z =>
      ⟨⟨z, l.S⟩, p + 1 + 1, rfl, ⟨by show l.S.length ≤ 4000; omega, hs⟩, by omega, by omega⟩
    (simp -dsimp (disch := first | omega | (simp only [lrep5, wr_id, List.length_cons, List.length_nil, List.length_map, List.length_append, List.length_take, List.length_drop, List.length_replicate, List.length_set, mkG_len] <;> omega) | fail) only [push_cast, if_pos, decide_eq_true, decide_eq_false, lrep5, wr_id, simprocAttr, -Nat.reduceSubDiff]) <;> (repeat (refine ex_draw (by kernel_rfl) ?_; simp -dsimp (disch := first | omega | (simp only [lrep5, wr_id, List.length_cons, List.length_nil, List.length_map, List.length_append, List.length_take, List.length_drop, List.length_replicate, List.length_set, mkG_len] <;> omega) | fail) only [push_cast, if_pos, decide_eq_true, decide_eq_false, lrep5, wr_id, simprocAttr, -Nat.reduceSubDiff]))
    refine ex_call hd ?_
    rcases (show d = 0 ∨ d = 1 ∨ d = 2 ∨ d = 3 ∨ d = 4 by omega) with rfl | rfl | rfl | rfl | rfl
    all_goals
      (simp -dsimp (disch := first | omega | (simp only [lrep5, wr_id, List.length_cons, List.length_nil, List.length_map, List.length_append, List.length_take, List.length_drop, List.length_replicate, List.length_set, mkG_len] <;> omega) | fail) only [push_cast, if_pos, decide_eq_true, decide_eq_false, lrep5, wr_id, simprocAttr, -Nat.reduceSubDiff]) <;> (repeat (refine ex_draw (by kernel_rfl) ?_; simp -dsimp (disch := first | omega | (simp only [lrep5, wr_id, List.length_cons, List.length_nil, List.length_map, List.length_append, List.length_take, List.length_drop, List.length_replicate, List.length_set, mkG_len] <;> omega) | fail) only [push_cast, if_pos, decide_eq_true, decide_eq_false, lrep5, wr_id, simprocAttr, -Nat.reduceSubDiff]))
      exact ⟨_, fin _, rfl⟩
  · obtain ⟨d, hd0, hd⟩ := pick_nat c (p + 1) 3 hc (by omega) (by omega) (by omega) (by omega)
    (simp -dsimp (disch := first | omega | (simp only [lrep3, wr_id, List.length_cons, List.length_nil, List.length_map, List.length_append, List.length_take, List.length_drop, List.length_replicate, List.length_set, mkG_len] <;> omega) | fail) only [push_cast, if_pos, decide_eq_true, decide_eq_false, lrep3, wr_id, simprocAttr, -Nat.reduceSubDiff]) <;> (repeat (refine ex_draw (by kernel_rfl) ?_; simp -dsimp (disch := first | omega | (simp only [lrep3, wr_id, List.length_cons, List.length_nil, List.length_map, List.length_append, List.length_take, List.length_drop, List.length_replicate, List.length_set, mkG_len] <;> omega) | fail) only [push_cast, if_pos, decide_eq_true, decide_eq_false, lrep3, wr_id, simprocAttr, -Nat.reduceSubDiff]))
    refine ex_call hd ?_
    have fin : ∀ (y : Str), y.size ≤ 8 → liR c p 2 (.ag [.sc (.int .i64 l.sz), .sl true 1 (l.S.map strR ++ [[.sc (.string y)]])], [some (.pb true (rdC1 c (p + 1 + 1)))]) := fun y hy =>
      ⟨⟨l.sz, l.S ++ [y]⟩, p + 1 + 1, by simp [lstC, strR], ⟨by show (l.S ++ [y]).length ≤ 4000; rw [List.length_append, List.length_cons, List.length_nil]; omega, fun x hx => by
        rcases List.mem_append.1 hx with q | q
        · exact hs x q
        · rw [List.mem_singleton.1 q]; exact hy⟩, by omega, by omega⟩
    rcases (show d = 0 ∨ d = 1 ∨ d = 2 by omega) with rfl | rfl | rfl
    all_goals
      (simp -dsimp (disch := first | omega | (simp only [lrep3, wr_id, List.length_cons, List.length_nil, List.length_map, List.length_append, List.length_take, List.length_drop, List.length_replicate, List.length_set, mkG_len] <;> omega) | fail) only [push_cast, if_pos, decide_eq_true, decide_eq_false, lrep3, wr_id, simprocAttr, -Nat.reduceSubDiff]) <;> (repeat (refine ex_draw (by kernel_rfl) ?_; simp -dsimp (disch := first | omega | (simp only [lrep3, wr_id, List.length_cons, List.length_nil, List.length_map, List.length_append, List.length_take, List.length_drop, List.length_replicate, List.length_set, mkG_len] <;> omega) | fail) only [push_cast, if_pos, decide_eq_true, decide_eq_false, lrep3, wr_id, simprocAttr, -Nat.reduceSubDiff]))
      exact ⟨_, fin _ (by decide), rfl⟩
  · by_cases h0 : 0 < l.S.length
    · have e1 : ((l.S.length : Int) - 1).toNat = l.S.length - 1 := by omega
      (simp -dsimp (disch := first | omega | (simp only [wr_id, e1, drop1, List.length_cons, List.length_nil, List.length_map, List.length_append, List.length_take, List.length_drop, List.length_replicate, List.length_set, mkG_len] <;> omega) | fail) only [push_cast, if_pos, decide_eq_true, decide_eq_false, wr_id, e1, drop1, simprocAttr, -Nat.reduceSubDiff]) <;> (repeat (refine ex_draw (by kernel_rfl) ?_; simp -dsimp (disch := first | omega | (simp only [wr_id, e1, drop1, List.length_cons, List.length_nil, List.length_map, List.length_append, List.length_take, List.length_drop, List.length_replicate, List.length_set, mkG_len] <;> omega) | fail) only [push_cast, if_pos, decide_eq_true, decide_eq_false, wr_id, e1, drop1, simprocAttr, -Nat.reduceSubDiff]))
      exact ⟨_, ⟨⟨l.sz, l.S.drop 1⟩, p + 1, rfl, ⟨by show (l.S.drop 1).length ≤ 4000; rw [List.length_drop]; omega, fun x hx => hs x (List.mem_of_mem_drop hx)⟩, by omega, by omega⟩, rfl⟩
    · (simp -dsimp (disch := first | omega | (simp only [wr_id, List.length_cons, List.length_nil, List.length_map, List.length_append, List.length_take, List.length_drop, List.length_replicate, List.length_set, mkG_len] <;> omega) | fail) only [push_cast, if_pos, decide_eq_true, decide_eq_false, wr_id, simprocAttr, -Nat.reduceSubDiff]) <;> (repeat (refine ex_draw (by kernel_rfl) ?_; simp -dsimp (disch := first | omega | (simp only [wr_id, List.length_cons, List.length_nil, List.length_map, List.length_append, List.length_take, List.length_drop, List.length_replicate, List.length_set, mkG_len] <;> omega) | fail) only [push_cast, if_pos, decide_eq_true, decide_eq_false, wr_id, simprocAttr, -Nat.reduceSubDiff]))
      exact ⟨_, ⟨l, p + 1, rfl, ⟨by omega, hs⟩, by omega, by omega⟩, rfl⟩
  · obtain ⟨d, hd0, hd⟩ := pick_nat c (p + 1) 2 hc (by omega) (by omega) (by omega) (by omega)
    (simp -dsimp (disch := first | omega | (simp only [wr_id, List.length_cons, List.length_nil, List.length_map, List.length_append, List.length_take, List.length_drop, List.length_replicate, List.length_set, mkG_len] <;> omega) | fail) only [push_cast, if_pos, decide_eq_true, decide_eq_false, wr_id, simprocAttr, -Nat.reduceSubDiff]) <;> (repeat (refine ex_draw (by kernel_rfl) ?_; simp -dsimp (disch := first | omega | (simp only [wr_id, List.length_cons, List.length_nil, List.length_map, List.length_append, List.length_take, List.length_drop, List.length_replicate, List.length_set, mkG_len] <;> omega) | fail) only [push_cast, if_pos, decide_eq_true, decide_eq_false, wr_id, simprocAttr, -Nat.reduceSubDiff]))
    refine ex_call hd ?_
    clear hd
    (simp -dsimp (disch := first | omega | (simp only [wr_id, List.length_cons, List.length_nil, List.length_map, List.length_append, List.length_take, List.length_drop, List.length_replicate, List.length_set, mkG_len] <;> omega) | fail) only [push_cast, if_pos, decide_eq_true, decide_eq_false, wr_id, simprocAttr, -Nat.reduceSubDiff]) <;> (repeat (refine ex_draw (by kernel_rfl) ?_; simp -dsimp (disch := first | omega | (simp only [wr_id, List.length_cons, List.length_nil, List.length_map, List.length_append, List.length_take, List.length_drop, List.length_replicate, List.length_set, mkG_len] <;> omega) | fail) only [push_cast, if_pos, decide_eq_true, decide_eq_false, wr_id, simprocAttr, -Nat.reduceSubDiff]))
    refine ex_loop (α := List Str) (fun L => L.length ≤ 3500 ∧ ∀ x ∈ L, x.size ≤ 8)
      (fun L => ⟨[(0, .pt 1 0 0), (4, .pt 2 0 0), (5, .pt 4 0 0), (6, .sc (.int .i64 (375 + (d : Int))))], [(1, .bx (rdC1 c (p + 1 + 1))), (2, .bx [.sc (.int .i64 0), .ow 3 0 0]), (3, .ar 1 0 []), (4, .bx [.sc (.int .i64 l.sz), .ow 5 0 L.length]), (5, .ar 1 0 (L.map strR))], 6⟩)
      (fun L => 4000 - L.length) l.S ⟨hl, hs⟩ ?_ ?_
    · simp -dsimp (disch := first | omega | (simp only [List.length_cons, List.length_nil, List.length_map, List.length_append, List.length_take, List.length_drop, List.length_replicate, List.length_set, mkG_len] <;> omega) | fail) only [push_cast, if_pos, decide_eq_true, decide_eq_false, simprocAttr, -Nat.reduceSubDiff]
    rintro L ⟨hL, hLs⟩ ih
    by_cases h : (L.length : Int) < 375 + d
    · (simp -dsimp (disch := first | omega | (simp only [wr_id, List.length_cons, List.length_nil, List.length_map, List.length_append, List.length_take, List.length_drop, List.length_replicate, List.length_set, mkG_len] <;> omega) | fail) only [push_cast, if_pos, decide_eq_true, decide_eq_false, wr_id, simprocAttr, -Nat.reduceSubDiff]) <;> (repeat (refine ex_draw (by kernel_rfl) ?_; simp -dsimp (disch := first | omega | (simp only [wr_id, List.length_cons, List.length_nil, List.length_map, List.length_append, List.length_take, List.length_drop, List.length_replicate, List.length_set, mkG_len] <;> omega) | fail) only [push_cast, if_pos, decide_eq_true, decide_eq_false, wr_id, simprocAttr, -Nat.reduceSubDiff]))
      refine ih (L ++ [⟨#[49, 50, 51, 52, 53, 54, 55, 56]⟩]) _ (by simp only [List.length_append, List.length_cons, List.length_nil]; omega) ⟨by simp only [List.length_append, List.length_cons, List.length_nil]; omega, fun x hx => by
        rcases List.mem_append.1 hx with q | q
        · exact hLs x q
        · rw [List.mem_singleton.1 q]; decide⟩ ?_
      simp -dsimp (disch := first | omega | (simp only [wr_id, List.map_append, List.length_append, List.length_cons, List.length_nil, List.map_cons, List.map_nil, List.length_cons, List.length_nil, List.length_map, List.length_append, List.length_take, List.length_drop, List.length_replicate, List.length_set, mkG_len] <;> omega) | fail) only [push_cast, if_pos, decide_eq_true, decide_eq_false, wr_id, List.map_append, List.length_append, List.length_cons, List.length_nil, List.map_cons, List.map_nil, simprocAttr, -Nat.reduceSubDiff]
    · (simp -dsimp (disch := first | omega | (simp only [wr_id, List.length_cons, List.length_nil, List.length_map, List.length_append, List.length_take, List.length_drop, List.length_replicate, List.length_set, mkG_len] <;> omega) | fail) only [push_cast, if_pos, decide_eq_true, decide_eq_false, wr_id, simprocAttr, -Nat.reduceSubDiff]) <;> (repeat (refine ex_draw (by kernel_rfl) ?_; simp -dsimp (disch := first | omega | (simp only [wr_id, List.length_cons, List.length_nil, List.length_map, List.length_append, List.length_take, List.length_drop, List.length_replicate, List.length_set, mkG_len] <;> omega) | fail) only [push_cast, if_pos, decide_eq_true, decide_eq_false, wr_id, simprocAttr, -Nat.reduceSubDiff]))
      exact ⟨_, ⟨⟨l.sz, L⟩, p + 1 + 1, rfl, ⟨by show L.length ≤ 4000; omega, hLs⟩, by omega, by omega⟩, rfl⟩
  · by_cases h1 : 1 < l.S.length
    · obtain ⟨y, hy⟩ := ex_get h1
      obtain ⟨z, hz2⟩ := ex_get (show 0 < l.S.length by omega)
      have hset : (l.S.map strR).set 0 [.sc (.string y)] = (l.S.set 0 y).map strR := by rw [List.map_set]; rfl
      (simp -dsimp (disch := first | omega | (simp only [wr_id, hy, hz2, hset, List.length_cons, List.length_nil, List.length_map, List.length_append, List.length_take, List.length_drop, List.length_replicate, List.length_set, mkG_len] <;> omega) | fail) only [push_cast, if_pos, decide_eq_true, decide_eq_false, wr_id, hy, hz2, hset, simprocAttr, -Nat.reduceSubDiff]) <;> (repeat (refine ex_draw (by kernel_rfl) ?_; simp -dsimp (disch := first | omega | (simp only [wr_id, hy, hz2, hset, List.length_cons, List.length_nil, List.length_map, List.length_append, List.length_take, List.length_drop, List.length_replicate, List.length_set, mkG_len] <;> omega) | fail) only [push_cast, if_pos, decide_eq_true, decide_eq_false, wr_id, hy, hz2, hset, simprocAttr, -Nat.reduceSubDiff]))
      exact ⟨_, ⟨⟨l.sz, l.S.set 0 y⟩, p + 1, rfl, ⟨by show (l.S.set 0 y).length ≤ 4000; rw [List.length_set]; omega, fun x hx => by
        rcases List.mem_or_eq_of_mem_set hx with q | q
        · exact hs x q
        · rw [q]; exact hs y (List.mem_of_getElem? hy)⟩, by omega, by omega⟩, rfl⟩
    · (simp -dsimp (disch := first | omega | (simp only [wr_id, List.length_cons, List.length_nil, List.length_map, List.length_append, List.length_take, List.length_drop, List.length_replicate, List.length_set, mkG_len] <;> omega) | fail) only [push_cast, if_pos, decide_eq_true, decide_eq_false, wr_id, simprocAttr, -Nat.reduceSubDiff]) <;> (repeat (refine ex_draw (by kernel_rfl) ?_; simp -dsimp (disch := first | omega | (simp only [wr_id, List.length_cons, List.length_nil, List.length_map, List.length_append, List.length_take, List.length_drop, List.length_replicate, List.length_set, mkG_len] <;> omega) | fail) only [push_cast, if_pos, decide_eq_true, decide_eq_false, wr_id, simprocAttr, -Nat.reduceSubDiff]))
      exact ⟨_, ⟨l, p + 1, rfl, ⟨by omega, hs⟩, by omega, by omega⟩, rfl⟩
end Go.Proofs.YtgkncgiglmdnaaaGreatDoor.Mx

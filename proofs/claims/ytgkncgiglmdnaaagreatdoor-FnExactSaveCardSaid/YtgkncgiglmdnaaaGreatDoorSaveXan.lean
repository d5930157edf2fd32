/- A machine over values for Go functions, proved sound, and functions run on it: texts F50, F46. -/
import Derived.Test.YtgkncgiglmdnaaaGreatDoorSaveXak
import Derived.Test.YtgkncgiglmdnaaaGreatDoorSaveXam
/- Texts put into stores: the reference. -/
namespace Go.Proofs.YtgkncgiglmdnaaaGreatDoor.Mx
set_option linter.all false
open Go Go.RowKit Go.Proofs
set_option linter.unusedSimpArgs false
theorem seg_tk {α : Type} (l : List α) (f : α → Row) (n : Nat) : seg (l.map f) 0 n = (l.take n).map f := by simp [seg, List.map_take]
theorem seg_dr {α : Type} (l : List α) (f : α → Row) (a n : Nat) (h : l.length ≤ a + n) : seg (l.map f) a n = (l.drop a).map f := by
  unfold seg; rw [List.take_of_length_le (by simp; omega), List.map_drop]
def awayF (s : Store) (N : List Str) : Store × Bool := if bestF s.w N s.I s.I.length < 0 then (s, false) else ({ s with I := rmAt s.I (bestF s.w N s.I s.I.length).toNat }, true)
def E118 : Env := { T := T0, kp := look [(0, [0, 1]), (1, [1, 2, 4]), (2, [1, 2, 4, 6]), (3, [1, 2, 4, 6, 7]), (4, [1, 2, 4, 6, 7]), (5, [1, 2, 4, 6, 7]), (6, [1, 2, 4, 7]), (7, [2, 4, 6]), (8, [2, 4]), (9, [2, 4, 6]), (10, [2, 4])], dp := look2 [(5, [[], [], [1], [], [1, 2, 3], [1, 2, 3, 4], [1, 2, 3, 4, 5], [], [7], [1, 2, 3, 4, 5, 6, 7, 8], [0, 1, 2, 3, 4, 5, 6, 7, 8, 9], [0, 1, 2, 3, 4, 5, 6, 7, 8, 9, 10], [0, 1, 2, 3, 4, 5, 6, 7, 8, 9, 10, 11], [0, 1, 2, 3, 4, 5, 6, 7, 8, 9, 10, 11, 12], [0, 1, 2, 3, 4, 5, 6, 7, 8, 9, 10, 11, 12, 13], [0, 1, 2, 3, 4, 5, 6, 7, 8, 9, 10, 11, 12, 13, 14], [0, 1, 2, 3, 4, 5, 6, 7, 8, 9, 10, 11, 12, 13, 14, 15], [0, 1, 2, 3, 4, 5, 6, 7, 8, 9, 10, 11, 12, 13, 14, 15, 16], [0, 1, 2, 3, 4, 5, 6, 7, 8, 9, 10, 11, 12, 13, 14, 15], [0, 1, 2, 3, 4, 5, 6, 7, 8, 9, 10, 11, 12, 13, 14, 15, 16, 17, 18], [0, 1, 2, 3, 4, 5, 6, 7, 8, 9, 10, 11, 12, 13, 14, 15, 16, 17, 18, 19], [0, 1, 2, 3, 4, 5, 6, 7, 8, 9, 10, 11, 12, 13, 14, 15, 16, 17, 18, 19, 20], [0, 1, 2, 3, 4, 5, 6, 7, 8, 9, 10, 11, 12, 13, 14, 15], [0, 1, 2, 3, 4, 5, 6, 7, 8, 9, 10, 11, 12, 13, 14, 15, 22], [0, 1, 2, 3, 4, 5, 6, 7, 8, 9, 10, 11, 12, 13, 14, 15], [0, 1, 2, 3, 4, 5, 6, 7, 8, 9, 10, 11, 12, 13, 14, 15, 22, 23, 24], [0, 1, 2, 3, 4, 5, 6, 7, 8, 9, 10, 11, 12, 13, 14, 15, 22, 23, 24, 25], [0, 1, 2, 3, 4, 5, 6, 7, 8, 9, 10, 11, 12, 13, 14, 15, 22, 23, 24, 25, 26], [0, 1, 2, 3, 4, 5, 6, 7, 8, 9, 10, 11, 12, 13, 14, 15, 16, 17, 18, 19, 20, 21, 22, 23, 24, 25, 26, 27], [0, 1, 2, 3, 4, 5, 6, 7, 8, 9, 10, 11, 12, 13, 14, 15, 16, 17, 18, 19, 20, 21, 22, 23, 24, 25, 26, 27, 28], [0, 1, 2, 3, 4, 5, 6, 7, 8, 9, 10, 11, 12, 13, 14, 15, 16, 17, 18, 19, 20, 21, 22, 23, 24, 25, 26, 27, 28, 29]]), (9, [[], [], [1], [], [1, 2, 3], [0, 1, 2, 3, 4], [], [6], [], [8], [6, 7, 8, 9], [0, 1, 2, 3, 4, 5, 6, 7, 8, 9, 10], [0, 1, 2, 3, 4, 5, 6, 7, 8, 9, 10, 11], [0, 1, 2, 3, 4, 5, 6, 7, 8, 9, 10, 11, 12]])] }
attribute [local push_cast] E118
set_option maxRecDepth 20000 in
set_option maxHeartbeats 4000000 in
theorem l4Away (s : Store) (N : List Str) (hs : okStore s) (hN : N.length ≤ 2097152) : Does Tryz.prog 118 [.ag (storeC true s), .sl false 1 (N.map strR)] (.tu [.ag (storeC true (awayF s N).1), .sc (.bool (awayF s N).2)], []) := by
  refine does_of (E := E118) (rs := [.cell 4 46, .tmp 5]) (lent := []) tOk rfl Tryz.func118 rfl (by decide) rfl rfl (Nat.le_of_ble_eq_true rfl) (Nat.le_of_ble_eq_true rfl) ?_
  obtain ⟨M, hM⟩ : ∃ M, M = awayF s N := ⟨_, rfl⟩
  rw [← hM]
  unfold awayF at hM
  have hl := hs.1.1
  (simp -dsimp (disch := first | omega | (simp only [List.length_cons, List.length_nil, List.length_map, List.length_append, List.length_take, List.length_drop, List.length_replicate, List.length_set, mkG_len] <;> omega) | fail) only [push_cast, if_pos, decide_eq_true, decide_eq_false, simprocAttr, -Nat.reduceSubDiff]) <;> (repeat (refine (aw_draw (by kernel_rfl)).2 ?_; simp -dsimp (disch := first | omega | (simp only [List.length_cons, List.length_nil, List.length_map, List.length_append, List.length_take, List.length_drop, List.length_replicate, List.length_set, mkG_len] <;> omega) | fail) only [push_cast, if_pos, decide_eq_true, decide_eq_false, simprocAttr, -Nat.reduceSubDiff]))
  refine loop_ind (α := Nat) (fun i => i ≤ s.I.length)
    (fun i => ⟨[(1, .sl false 1 (N.map strR)), (2, .pt 1 0 0), (4, .pt 4 0 0), (6, .sc (.int .i64 (bestF s.w N s.I i))), (7, .sc (.int .i64 i))], [(1, .bx [.sc (.int .i64 s.w), .sc (.int .i64 s.r), .ow 2 0 s.I.length, .ow 3 0 s.P.length]), (2, .ar 2 0 (s.I.map (itemC true))), (3, .ar 1 0 (s.P.map strR)), (4, .bx [.sc (.int .i64 0), .sc (.int .i64 0), .ow 5 0 0, .ow 6 0 0]), (5, .ar 2 0 []), (6, .ar 1 0 [])], 7⟩) (fun i => s.I.length - i) 0 (Nat.zero_le _) ?_ ?_
  · simp -dsimp (disch := first | omega | (simp only [bestF, List.length_cons, List.length_nil, List.length_map, List.length_append, List.length_take, List.length_drop, List.length_replicate, List.length_set, mkG_len] <;> omega) | fail) only [push_cast, if_pos, decide_eq_true, decide_eq_false, bestF, simprocAttr, -Nat.reduceSubDiff]
  intro i hi ih
  by_cases h : i < s.I.length
  · obtain ⟨x, hx⟩ := ex_get h
    have hxt : x.t.size ≤ 2097152 := hs.1.2 x (List.mem_of_getElem? hx)
    have hst : bestF s.w N s.I (i + 1) = if inL N (sumS x.t s.w) = false ∧ (bestF s.w N s.I i < 0 ∨ x.u < usedAt s.I (bestF s.w N s.I i)) then (i : Int) else bestF s.w N s.I i := by rw [bestF, hx]
    have hr := best_rng s.w N s.I i
    obtain ⟨B, hB⟩ : ∃ B, B = bestF s.w N s.I i := ⟨_, rfl⟩
    rw [← hB] at hst hr ⊢
    (simp -dsimp (disch := first | omega | (simp only [h, hx, List.length_cons, List.length_nil, List.length_map, List.length_append, List.length_take, List.length_drop, List.length_replicate, List.length_set, mkG_len] <;> omega) | fail) only [push_cast, if_pos, decide_eq_true, decide_eq_false, h, hx, simprocAttr, -Nat.reduceSubDiff]) <;> (repeat (refine (aw_draw (by kernel_rfl)).2 ?_; simp -dsimp (disch := first | omega | (simp only [h, hx, List.length_cons, List.length_nil, List.length_map, List.length_append, List.length_take, List.length_drop, List.length_replicate, List.length_set, mkG_len] <;> omega) | fail) only [push_cast, if_pos, decide_eq_true, decide_eq_false, h, hx, simprocAttr, -Nat.reduceSubDiff]))
    refine callC (specSum x.t s.w (by omega)) ?_
    (simp -dsimp (disch := first | omega | (simp only [h, hx, List.length_cons, List.length_nil, List.length_map, List.length_append, List.length_take, List.length_drop, List.length_replicate, List.length_set, mkG_len] <;> omega) | fail) only [push_cast, if_pos, decide_eq_true, decide_eq_false, h, hx, simprocAttr, -Nat.reduceSubDiff]) <;> (repeat (refine (aw_draw (by kernel_rfl)).2 ?_; simp -dsimp (disch := first | omega | (simp only [h, hx, List.length_cons, List.length_nil, List.length_map, List.length_append, List.length_take, List.length_drop, List.length_replicate, List.length_set, mkG_len] <;> omega) | fail) only [push_cast, if_pos, decide_eq_true, decide_eq_false, h, hx, simprocAttr, -Nat.reduceSubDiff]))
    refine callC (l2In N (sumS x.t s.w) hN) ?_
    cases hin : inL N (sumS x.t s.w) with
    | true =>
      rw [if_neg (by rw [hin]; simp)] at hst
      (simp -dsimp (disch := first | omega | (simp only [h, hx, List.length_cons, List.length_nil, List.length_map, List.length_append, List.length_take, List.length_drop, List.length_replicate, List.length_set, mkG_len] <;> omega) | fail) only [push_cast, if_pos, decide_eq_true, decide_eq_false, h, hx, simprocAttr, -Nat.reduceSubDiff]) <;> (repeat (refine (aw_draw (by kernel_rfl)).2 ?_; simp -dsimp (disch := first | omega | (simp only [h, hx, List.length_cons, List.length_nil, List.length_map, List.length_append, List.length_take, List.length_drop, List.length_replicate, List.length_set, mkG_len] <;> omega) | fail) only [push_cast, if_pos, decide_eq_true, decide_eq_false, h, hx, simprocAttr, -Nat.reduceSubDiff]))
      refine ih (i + 1) _ (by omega) h ?_
      rw [hst]
      simp -dsimp (disch := first | omega | (simp only [wr_id, List.length_cons, List.length_nil, List.length_map, List.length_append, List.length_take, List.length_drop, List.length_replicate, List.length_set, mkG_len] <;> omega) | fail) only [push_cast, if_pos, decide_eq_true, decide_eq_false, wr_id, simprocAttr, -Nat.reduceSubDiff]
    | false =>
    by_cases hB0 : B < 0
    · rw [if_pos ⟨hin, .inl hB0⟩] at hst
      (simp -dsimp (disch := first | omega | (simp only [h, hx, hB0, List.length_cons, List.length_nil, List.length_map, List.length_append, List.length_take, List.length_drop, List.length_replicate, List.length_set, mkG_len] <;> omega) | fail) only [push_cast, if_pos, decide_eq_true, decide_eq_false, h, hx, hB0, simprocAttr, -Nat.reduceSubDiff]) <;> (repeat (refine (aw_draw (by kernel_rfl)).2 ?_; simp -dsimp (disch := first | omega | (simp only [h, hx, hB0, List.length_cons, List.length_nil, List.length_map, List.length_append, List.length_take, List.length_drop, List.length_replicate, List.length_set, mkG_len] <;> omega) | fail) only [push_cast, if_pos, decide_eq_true, decide_eq_false, h, hx, hB0, simprocAttr, -Nat.reduceSubDiff]))
      refine ih (i + 1) _ (by omega) h ?_
      rw [hst]
      simp -dsimp (disch := first | omega | (simp only [wr_id, List.length_cons, List.length_nil, List.length_map, List.length_append, List.length_take, List.length_drop, List.length_replicate, List.length_set, mkG_len] <;> omega) | fail) only [push_cast, if_pos, decide_eq_true, decide_eq_false, wr_id, simprocAttr, -Nat.reduceSubDiff]
    obtain ⟨k, hk⟩ : ∃ k : Nat, B = k := ⟨B.toNat, by omega⟩
    rw [hk] at hst hB0 hr ⊢
    obtain ⟨y, hy⟩ := ex_get (show k < s.I.length by omega)
    have hua : usedAt s.I (k : Int) = y.u := by unfold usedAt; rw [Int.toNat_natCast, hy]
    rw [hua] at hst
    by_cases hlt : x.u < y.u
    · rw [if_pos ⟨hin, .inr hlt⟩] at hst
      (simp -dsimp (disch := first | omega | (simp only [h, hx, hy, hB0, hlt, List.length_cons, List.length_nil, List.length_map, List.length_append, List.length_take, List.length_drop, List.length_replicate, List.length_set, mkG_len] <;> omega) | fail) only [push_cast, if_pos, decide_eq_true, decide_eq_false, h, hx, hy, hB0, hlt, simprocAttr, -Nat.reduceSubDiff]) <;> (repeat (refine (aw_draw (by kernel_rfl)).2 ?_; simp -dsimp (disch := first | omega | (simp only [h, hx, hy, hB0, hlt, List.length_cons, List.length_nil, List.length_map, List.length_append, List.length_take, List.length_drop, List.length_replicate, List.length_set, mkG_len] <;> omega) | fail) only [push_cast, if_pos, decide_eq_true, decide_eq_false, h, hx, hy, hB0, hlt, simprocAttr, -Nat.reduceSubDiff]))
      refine ih (i + 1) _ (by omega) h ?_
      rw [hst]
      simp -dsimp (disch := first | omega | (simp only [wr_id, List.length_cons, List.length_nil, List.length_map, List.length_append, List.length_take, List.length_drop, List.length_replicate, List.length_set, mkG_len] <;> omega) | fail) only [push_cast, if_pos, decide_eq_true, decide_eq_false, wr_id, simprocAttr, -Nat.reduceSubDiff]
    · rw [if_neg (by rintro ⟨_, q | q⟩; exact hB0 q; exact hlt q)] at hst
      (simp -dsimp (disch := first | omega | (simp only [h, hx, hy, hB0, hlt, List.length_cons, List.length_nil, List.length_map, List.length_append, List.length_take, List.length_drop, List.length_replicate, List.length_set, mkG_len] <;> omega) | fail) only [push_cast, if_pos, decide_eq_true, decide_eq_false, h, hx, hy, hB0, hlt, simprocAttr, -Nat.reduceSubDiff]) <;> (repeat (refine (aw_draw (by kernel_rfl)).2 ?_; simp -dsimp (disch := first | omega | (simp only [h, hx, hy, hB0, hlt, List.length_cons, List.length_nil, List.length_map, List.length_append, List.length_take, List.length_drop, List.length_replicate, List.length_set, mkG_len] <;> omega) | fail) only [push_cast, if_pos, decide_eq_true, decide_eq_false, h, hx, hy, hB0, hlt, simprocAttr, -Nat.reduceSubDiff]))
      refine ih (i + 1) _ (by omega) h ?_
      rw [hst]
      simp -dsimp (disch := first | omega | (simp only [wr_id, List.length_cons, List.length_nil, List.length_map, List.length_append, List.length_take, List.length_drop, List.length_replicate, List.length_set, mkG_len] <;> omega) | fail) only [push_cast, if_pos, decide_eq_true, decide_eq_false, wr_id, simprocAttr, -Nat.reduceSubDiff]
  · have hi : i = s.I.length := by omega
    subst hi
    have hr := best_rng s.w N s.I s.I.length
    obtain ⟨B, hB⟩ : ∃ B, B = bestF s.w N s.I s.I.length := ⟨_, rfl⟩
    rw [← hB] at hr hM ⊢
    by_cases hB0 : B < 0
    · rw [if_pos hB0] at hM
      subst hM
      (simp -dsimp (disch := first | omega | (simp only [hB0, List.length_cons, List.length_nil, List.length_map, List.length_append, List.length_take, List.length_drop, List.length_replicate, List.length_set, mkG_len] <;> omega) | fail) only [push_cast, if_pos, decide_eq_true, decide_eq_false, hB0, simprocAttr, -Nat.reduceSubDiff]) <;> (repeat (refine (aw_draw (by kernel_rfl)).2 ?_; simp -dsimp (disch := first | omega | (simp only [hB0, List.length_cons, List.length_nil, List.length_map, List.length_append, List.length_take, List.length_drop, List.length_replicate, List.length_set, mkG_len] <;> omega) | fail) only [push_cast, if_pos, decide_eq_true, decide_eq_false, hB0, simprocAttr, -Nat.reduceSubDiff]))
    obtain ⟨k, hk⟩ : ∃ k : Nat, B = k := ⟨B.toNat, by omega⟩
    rw [if_neg hB0] at hM
    rw [hk, Int.toNat_natCast] at hM
    rw [hk] at hB0 hr ⊢
    subst hM
    have e1 : ((k : Int) + 1).toNat = k + 1 := by omega
    (simp -dsimp (disch := first | omega | (simp only [hB0, e1, seg_tk, seg_dr, wr_id, rmAt, List.map_append, List.length_cons, List.length_nil, List.length_map, List.length_append, List.length_take, List.length_drop, List.length_replicate, List.length_set, mkG_len] <;> omega) | fail) only [push_cast, if_pos, decide_eq_true, decide_eq_false, hB0, e1, seg_tk, seg_dr, wr_id, rmAt, List.map_append, simprocAttr, -Nat.reduceSubDiff]) <;> (repeat (refine (aw_draw (by kernel_rfl)).2 ?_; simp -dsimp (disch := first | omega | (simp only [hB0, e1, seg_tk, seg_dr, wr_id, rmAt, List.map_append, List.length_cons, List.length_nil, List.length_map, List.length_append, List.length_take, List.length_drop, List.length_replicate, List.length_set, mkG_len] <;> omega) | fail) only [push_cast, if_pos, decide_eq_true, decide_eq_false, hB0, e1, seg_tk, seg_dr, wr_id, rmAt, List.map_append, simprocAttr, -Nat.reduceSubDiff]))
theorem valid_P {s : Store} (hv : validSt s = true) : s.P.length ≤ 10 := by
  unfold validSt at hv
  simp only [Bool.and_eq_true, decide_eq_true_eq] at hv
  exact hv.1.1.1.2
theorem needL_len {s : Store} (hP : s.P.length ≤ 10) : (needL s).length ≤ 3760 := by
  have h1 := foldS_len (nmsL s) []
  have h2 := nms_len s s.P
  unfold needL
  unfold nmsL at h1 ⊢
  rw [List.length_nil] at h1
  omega
theorem set_item (I : List Item) (k : Nat) (t : Str) (u : Int) : (I.map (itemC true)).set k [.sc (.string t), .sc (.int .i64 u)] = (I.set k ⟨t, u⟩).map (itemC true) := by
  rw [List.map_set]; rfl
def E42 : Env := { T := T0, kp := look [(0, [0, 1, 2]), (1, [1, 2, 3, 6]), (2, [6]), (3, [1, 2, 3, 6]), (4, [1, 2, 3, 6, 8]), (5, [1, 2, 3, 6, 8, 9]), (6, [1, 2, 3, 6, 8, 9, 10]), (7, [1, 2, 6, 8, 10]), (8, [6]), (9, [2, 6, 8, 10]), (10, [6, 8]), (11, [1, 2, 3, 6, 8, 9]), (12, [1, 2, 3, 6, 8, 9, 11]), (13, [1, 2, 3, 6, 8, 9, 11]), (14, [1, 2, 3, 6, 8, 9, 11, 12, 13]), (15, [6]), (16, [1, 2, 3, 6, 8, 9, 11, 12]), (17, [1, 2, 3, 6, 8, 9]), (18, [1, 2, 3, 6, 8, 9, 14]), (19, [1, 2, 3, 6, 8, 9, 14]), (20, [1, 2, 6, 8, 14]), (21, [6, 8])], dp := look2 [(12, [[], [0], [], [2], [0, 1, 2, 3], [], [5], [0, 1, 2, 3, 4, 5, 6], [0, 1, 2, 3, 4, 5, 6, 7], [0, 1, 2, 3, 4, 5, 6, 7, 8], [0, 1, 2, 3, 4, 5, 6, 7, 8, 9], [0, 1, 2, 3, 4, 5, 6, 7, 8, 9, 10], [0, 1, 2, 3, 4, 5, 6, 7, 8, 9, 10, 11], [0, 1, 2, 3, 4, 5, 6, 7, 8, 9, 10, 11, 12]]), (18, [[], [], [1], [1, 2], [0, 1, 2, 3], [0, 1, 2, 3, 4], [0, 1, 2, 3, 4, 5], [0, 1, 2, 3, 4, 5, 6], [0, 1, 2, 3, 4, 5], [0, 1, 2, 3, 4, 5, 6, 7, 8], [0, 1, 2, 3, 4, 5, 6, 7, 8, 9], [0, 1, 2, 3, 4, 5, 6, 7, 8, 9, 10], [0, 1, 2, 3, 4, 5], [0, 1, 2, 3, 4, 5, 12], [0, 1, 2, 3, 4, 5, 6, 7, 8, 9, 10, 11, 12, 13], [0, 1, 2, 3, 4, 5], [0, 1, 2, 3, 4, 5, 6, 7, 8, 9, 10, 11, 12, 13, 14, 15], [0, 1, 2, 3, 4, 5, 6, 7, 8, 9, 10, 11, 12, 13, 14, 15, 16]]), (20, [[], [], [1], [], [1, 2, 3], [0, 1, 2, 3, 4], [], [], [6, 7], [6, 7, 8], [0, 1, 2, 3, 4, 5, 6, 7, 8, 9], [], [11], [], [11, 12, 13], [0, 1, 2, 3, 4, 5, 6, 7, 8, 9, 10, 11, 12, 13, 14], [0, 1, 2, 3, 4, 5, 6, 7, 8, 9, 10, 11, 12, 13, 14, 15], [0, 1, 2, 3, 4, 5, 6, 7, 8, 9, 10, 11, 12, 13, 14, 15, 16]])], md := look3 [(13, 2, [2, 0])] }
attribute [local push_cast] E42
set_option maxRecDepth 20000 in
set_option maxHeartbeats 4000000 in
theorem specPut (s : Store) (t : Str) (now : Int) (hs : okStore s) (ht : t.size ≤ 2097152) : Does Tryz.prog 42 [.ag (storeC false s), .sc (.string t), .sc (.int .i64 now)] (.tu [.ag (storeC true (putF s t now).1), .sc (.int .i64 (putF s t now).2)], []) := by
  refine does_of (E := E42) (rs := [.cell 6 46, .tmp 7]) (lent := []) tOk rfl Tryz.func42 rfl (by decide) rfl rfl (Nat.le_of_ble_eq_true rfl) (Nat.le_of_ble_eq_true rfl) ?_
  obtain ⟨M, hM⟩ : ∃ M, M = putF s t now := ⟨_, rfl⟩
  rw [← hM]
  unfold putF at hM
  (simp -dsimp (disch := first | omega | (simp only [List.length_cons, List.length_nil, List.length_map, List.length_append, List.length_take, List.length_drop, List.length_replicate, List.length_set, mkG_len] <;> omega) | fail) only [push_cast, if_pos, decide_eq_true, decide_eq_false, simprocAttr, -Nat.reduceSubDiff]) <;> (repeat (refine (aw_draw (by kernel_rfl)).2 ?_; simp -dsimp (disch := first | omega | (simp only [List.length_cons, List.length_nil, List.length_map, List.length_append, List.length_take, List.length_drop, List.length_replicate, List.length_set, mkG_len] <;> omega) | fail) only [push_cast, if_pos, decide_eq_true, decide_eq_false, simprocAttr, -Nat.reduceSubDiff]))
  refine callC (specValidStore s hs) ?_
  cases hv : validSt s with
  | false =>
    rw [hv, Bool.false_and, Bool.false_and, if_pos rfl] at hM
    subst hM
    (simp -dsimp (disch := first | omega | (simp only [List.length_cons, List.length_nil, List.length_map, List.length_append, List.length_take, List.length_drop, List.length_replicate, List.length_set, mkG_len] <;> omega) | fail) only [push_cast, if_pos, decide_eq_true, decide_eq_false, simprocAttr, -Nat.reduceSubDiff]) <;> (repeat (refine (aw_draw (by kernel_rfl)).2 ?_; simp -dsimp (disch := first | omega | (simp only [List.length_cons, List.length_nil, List.length_map, List.length_append, List.length_take, List.length_drop, List.length_replicate, List.length_set, mkG_len] <;> omega) | fail) only [push_cast, if_pos, decide_eq_true, decide_eq_false, simprocAttr, -Nat.reduceSubDiff]))
    rfl
  | true =>
  (simp -dsimp (disch := first | omega | (simp only [List.length_cons, List.length_nil, List.length_map, List.length_append, List.length_take, List.length_drop, List.length_replicate, List.length_set, mkG_len] <;> omega) | fail) only [push_cast, if_pos, decide_eq_true, decide_eq_false, simprocAttr, -Nat.reduceSubDiff]) <;> (repeat (refine (aw_draw (by kernel_rfl)).2 ?_; simp -dsimp (disch := first | omega | (simp only [List.length_cons, List.length_nil, List.length_map, List.length_append, List.length_take, List.length_drop, List.length_replicate, List.length_set, mkG_len] <;> omega) | fail) only [push_cast, if_pos, decide_eq_true, decide_eq_false, simprocAttr, -Nat.reduceSubDiff]))
  refine callC (l1In ..) ?_
  cases hz : inB t.size 1 7000 with
  | false =>
    rw [hz, Bool.and_false, Bool.false_and, if_pos rfl] at hM
    subst hM
    (simp -dsimp (disch := first | omega | (simp only [List.length_cons, List.length_nil, List.length_map, List.length_append, List.length_take, List.length_drop, List.length_replicate, List.length_set, mkG_len] <;> omega) | fail) only [push_cast, if_pos, decide_eq_true, decide_eq_false, simprocAttr, -Nat.reduceSubDiff]) <;> (repeat (refine (aw_draw (by kernel_rfl)).2 ?_; simp -dsimp (disch := first | omega | (simp only [List.length_cons, List.length_nil, List.length_map, List.length_append, List.length_take, List.length_drop, List.length_replicate, List.length_set, mkG_len] <;> omega) | fail) only [push_cast, if_pos, decide_eq_true, decide_eq_false, simprocAttr, -Nat.reduceSubDiff]))
    rfl
  | true =>
  (simp -dsimp (disch := first | omega | (simp only [List.length_cons, List.length_nil, List.length_map, List.length_append, List.length_take, List.length_drop, List.length_replicate, List.length_set, mkG_len] <;> omega) | fail) only [push_cast, if_pos, decide_eq_true, decide_eq_false, simprocAttr, -Nat.reduceSubDiff]) <;> (repeat (refine (aw_draw (by kernel_rfl)).2 ?_; simp -dsimp (disch := first | omega | (simp only [List.length_cons, List.length_nil, List.length_map, List.length_append, List.length_take, List.length_drop, List.length_replicate, List.length_set, mkG_len] <;> omega) | fail) only [push_cast, if_pos, decide_eq_true, decide_eq_false, simprocAttr, -Nat.reduceSubDiff]))
  refine callC (l1In ..) ?_
  cases hn : inB now 0 1000000 with
  | false =>
    rw [hn, Bool.and_false, if_pos rfl] at hM
    subst hM
    (simp -dsimp (disch := first | omega | (simp only [List.length_cons, List.length_nil, List.length_map, List.length_append, List.length_take, List.length_drop, List.length_replicate, List.length_set, mkG_len] <;> omega) | fail) only [push_cast, if_pos, decide_eq_true, decide_eq_false, simprocAttr, -Nat.reduceSubDiff]) <;> (repeat (refine (aw_draw (by kernel_rfl)).2 ?_; simp -dsimp (disch := first | omega | (simp only [List.length_cons, List.length_nil, List.length_map, List.length_append, List.length_take, List.length_drop, List.length_replicate, List.length_set, mkG_len] <;> omega) | fail) only [push_cast, if_pos, decide_eq_true, decide_eq_false, simprocAttr, -Nat.reduceSubDiff]))
    rfl
  | true =>
  rw [if_neg (by rw [hv, hz, hn]; simp)] at hM
  have hP := valid_P hv
  (simp -dsimp (disch := first | omega | (simp only [List.length_cons, List.length_nil, List.length_map, List.length_append, List.length_take, List.length_drop, List.length_replicate, List.length_set, mkG_len] <;> omega) | fail) only [push_cast, if_pos, decide_eq_true, decide_eq_false, simprocAttr, -Nat.reduceSubDiff]) <;> (repeat (refine (aw_draw (by kernel_rfl)).2 ?_; simp -dsimp (disch := first | omega | (simp only [List.length_cons, List.length_nil, List.length_map, List.length_append, List.length_take, List.length_drop, List.length_replicate, List.length_set, mkG_len] <;> omega) | fail) only [push_cast, if_pos, decide_eq_true, decide_eq_false, simprocAttr, -Nat.reduceSubDiff]))
  refine callC (l4Copy s hs) ?_
  (simp -dsimp (disch := first | omega | (simp only [List.length_cons, List.length_nil, List.length_map, List.length_append, List.length_take, List.length_drop, List.length_replicate, List.length_set, mkG_len] <;> omega) | fail) only [push_cast, if_pos, decide_eq_true, decide_eq_false, simprocAttr, -Nat.reduceSubDiff]) <;> (repeat (refine (aw_draw (by kernel_rfl)).2 ?_; simp -dsimp (disch := first | omega | (simp only [List.length_cons, List.length_nil, List.length_map, List.length_append, List.length_take, List.length_drop, List.length_replicate, List.length_set, mkG_len] <;> omega) | fail) only [push_cast, if_pos, decide_eq_true, decide_eq_false, simprocAttr, -Nat.reduceSubDiff]))
  refine callC (specSum t s.w (by omega)) ?_
  obtain ⟨u, hu⟩ : ∃ u, u = sumS t s.w := ⟨_, rfl⟩
  rw [← hu] at hM ⊢
  (simp -dsimp (disch := first | omega | (simp only [List.length_cons, List.length_nil, List.length_map, List.length_append, List.length_take, List.length_drop, List.length_replicate, List.length_set, mkG_len] <;> omega) | fail) only [push_cast, if_pos, decide_eq_true, decide_eq_false, simprocAttr, -Nat.reduceSubDiff]) <;> (repeat (refine (aw_draw (by kernel_rfl)).2 ?_; simp -dsimp (disch := first | omega | (simp only [List.length_cons, List.length_nil, List.length_map, List.length_append, List.length_take, List.length_drop, List.length_replicate, List.length_set, mkG_len] <;> omega) | fail) only [push_cast, if_pos, decide_eq_true, decide_eq_false, simprocAttr, -Nat.reduceSubDiff]))
  refine callC (l4At s u hs) ?_
  by_cases hat : 0 ≤ atI s.w u s.I
  · rw [if_pos hat] at hM
    obtain ⟨i, x, h1, h2, _⟩ := at_get hat
    have hil := (List.getElem?_eq_some_iff.1 h2).1
    rw [textAt_some h1 h2, h1, Int.toNat_natCast] at hM
    rw [h1]
    by_cases he : x.t = t
    · rw [if_pos he] at hM
      subst hM
      (simp -dsimp (disch := first | omega | (simp only [h2, he, set_item, List.length_cons, List.length_nil, List.length_map, List.length_append, List.length_take, List.length_drop, List.length_replicate, List.length_set, mkG_len] <;> omega) | fail) only [push_cast, if_pos, decide_eq_true, decide_eq_false, h2, he, set_item, simprocAttr, -Nat.reduceSubDiff]) <;> (repeat (refine (aw_draw (by kernel_rfl)).2 ?_; simp -dsimp (disch := first | omega | (simp only [h2, he, set_item, List.length_cons, List.length_nil, List.length_map, List.length_append, List.length_take, List.length_drop, List.length_replicate, List.length_set, mkG_len] <;> omega) | fail) only [push_cast, if_pos, decide_eq_true, decide_eq_false, h2, he, set_item, simprocAttr, -Nat.reduceSubDiff]))
    · rw [if_neg he] at hM
      subst hM
      (simp -dsimp (disch := first | omega | (simp only [h2, he, List.length_cons, List.length_nil, List.length_map, List.length_append, List.length_take, List.length_drop, List.length_replicate, List.length_set, mkG_len] <;> omega) | fail) only [push_cast, if_pos, decide_eq_true, decide_eq_false, h2, he, simprocAttr, -Nat.reduceSubDiff]) <;> (repeat (refine (aw_draw (by kernel_rfl)).2 ?_; simp -dsimp (disch := first | omega | (simp only [h2, he, List.length_cons, List.length_nil, List.length_map, List.length_append, List.length_take, List.length_drop, List.length_replicate, List.length_set, mkG_len] <;> omega) | fail) only [push_cast, if_pos, decide_eq_true, decide_eq_false, h2, he, simprocAttr, -Nat.reduceSubDiff]))
      rfl
  rw [if_neg hat] at hM
  (simp -dsimp (disch := first | omega | (simp only [hat, List.length_cons, List.length_nil, List.length_map, List.length_append, List.length_take, List.length_drop, List.length_replicate, List.length_set, mkG_len] <;> omega) | fail) only [push_cast, if_pos, decide_eq_true, decide_eq_false, hat, simprocAttr, -Nat.reduceSubDiff]) <;> (repeat (refine (aw_draw (by kernel_rfl)).2 ?_; simp -dsimp (disch := first | omega | (simp only [hat, List.length_cons, List.length_nil, List.length_map, List.length_append, List.length_take, List.length_drop, List.length_replicate, List.length_set, mkG_len] <;> omega) | fail) only [push_cast, if_pos, decide_eq_true, decide_eq_false, hat, simprocAttr, -Nat.reduceSubDiff]))
  refine callC (l4Needed s hs hP) ?_
  have hNl := needL_len hP
  rw [show (nmsL s).foldl addS [] = needL s from rfl]
  generalize needL s = N at hM hNl ⊢
  (simp -dsimp (disch := first | omega | (simp only [List.length_cons, List.length_nil, List.length_map, List.length_append, List.length_take, List.length_drop, List.length_replicate, List.length_set, mkG_len] <;> omega) | fail) only [push_cast, if_pos, decide_eq_true, decide_eq_false, simprocAttr, -Nat.reduceSubDiff]) <;> (repeat (refine (aw_draw (by kernel_rfl)).2 ?_; simp -dsimp (disch := first | omega | (simp only [List.length_cons, List.length_nil, List.length_map, List.length_append, List.length_take, List.length_drop, List.length_replicate, List.length_set, mkG_len] <;> omega) | fail) only [push_cast, if_pos, decide_eq_true, decide_eq_false, simprocAttr, -Nat.reduceSubDiff]))
  obtain ⟨E, hE⟩ : ∃ E, E = evF s.w s.r N t.size s.I := ⟨_, rfl⟩
  rw [← hE] at hM
  refine loop_ind (α := List Item) (fun J => okL okItem J ∧ evF s.w s.r N t.size J = E)
    (fun J => ⟨[(1, .sc (.string t)), (2, .sc (.int .i64 now)), (3, .pt 1 0 0), (6, .pt 2 0 0), (8, .pt 5 0 0), (9, .sc (.string u)), (11, .ow 8 0 N.length)],
      [(1, .bx (storeC false s)), (2, .bx [.sc (.int .i64 0), .sc (.int .i64 0), .ow 3 0 0, .ow 4 0 0]), (3, .ar 2 0 []), (4, .ar 1 0 []), (5, .bx [.sc (.int .i64 s.w), .sc (.int .i64 s.r), .ow 6 0 J.length, .ow 7 0 s.P.length]), (6, .ar 2 0 (J.map (itemC true))), (7, .ar 1 0 (s.P.map strR)), (8, .ar 1 0 (N.map strR))], 9⟩) (fun J => J.length) s.I ⟨hs.1, hE.symm⟩ ?_ ?_
  · simp -dsimp (disch := first | omega | (simp only [List.length_cons, List.length_nil, List.length_map, List.length_append, List.length_take, List.length_drop, List.length_replicate, List.length_set, mkG_len] <;> omega) | fail) only [push_cast, if_pos, decide_eq_true, decide_eq_false, simprocAttr, -Nat.reduceSubDiff]
  rintro J ⟨hJ, hEJ⟩ ih
  have hsJ : okStore { s with I := J } := ⟨hJ, hs.2⟩
  have hJl := hJ.1
  have hb := bytes_le hJ
  have hb0 := bytes_nn J
  have hby := l4Bytes { s with I := J } hsJ
  have haw := l4Away { s with I := J } N hsJ (by omega)
  simp only at hby
  unfold awayF at haw
  simp only at haw
  rw [evF] at hEJ
  by_cases hc : s.r < bytes J + t.size ∨ 1000 ≤ J.length
  · rw [if_pos hc] at hEJ
    have hr := best_rng s.w N J J.length
    obtain ⟨B, hB⟩ : ∃ B, B = bestF s.w N J J.length := ⟨_, rfl⟩
    rw [← hB] at hEJ hr haw
    have two : (s.r < bytes J + t.size ∧ s.r < bytes J + t.size) ∨ (¬ s.r < bytes J + t.size ∧ 1000 ≤ J.length) := by omega
    rcases two with ⟨h1, h2⟩ | ⟨h1, h2⟩
    all_goals
      (simp -dsimp (disch := first | omega | (simp only [wr_id, List.length_cons, List.length_nil, List.length_map, List.length_append, List.length_take, List.length_drop, List.length_replicate, List.length_set, mkG_len] <;> omega) | fail) only [push_cast, if_pos, decide_eq_true, decide_eq_false, wr_id, simprocAttr, -Nat.reduceSubDiff]) <;> (repeat (refine (aw_draw (by kernel_rfl)).2 ?_; simp -dsimp (disch := first | omega | (simp only [wr_id, List.length_cons, List.length_nil, List.length_map, List.length_append, List.length_take, List.length_drop, List.length_replicate, List.length_set, mkG_len] <;> omega) | fail) only [push_cast, if_pos, decide_eq_true, decide_eq_false, wr_id, simprocAttr, -Nat.reduceSubDiff]))
      refine callC hby ?_
      (simp -dsimp (disch := first | omega | (simp only [wr_id, List.length_cons, List.length_nil, List.length_map, List.length_append, List.length_take, List.length_drop, List.length_replicate, List.length_set, mkG_len] <;> omega) | fail) only [push_cast, if_pos, decide_eq_true, decide_eq_false, wr_id, simprocAttr, -Nat.reduceSubDiff]) <;> (repeat (refine (aw_draw (by kernel_rfl)).2 ?_; simp -dsimp (disch := first | omega | (simp only [wr_id, List.length_cons, List.length_nil, List.length_map, List.length_append, List.length_take, List.length_drop, List.length_replicate, List.length_set, mkG_len] <;> omega) | fail) only [push_cast, if_pos, decide_eq_true, decide_eq_false, wr_id, simprocAttr, -Nat.reduceSubDiff]))
      refine callC haw ?_
      by_cases hB0 : B < 0
      · rw [if_neg (by omega)] at hEJ
        rw [← hEJ] at hM
        rw [if_pos hB0]
        subst hM
        (simp -dsimp (disch := first | omega | (simp only [List.length_cons, List.length_nil, List.length_map, List.length_append, List.length_take, List.length_drop, List.length_replicate, List.length_set, mkG_len] <;> omega) | fail) only [push_cast, if_pos, decide_eq_true, decide_eq_false, simprocAttr, -Nat.reduceSubDiff]) <;> (repeat (refine (aw_draw (by kernel_rfl)).2 ?_; simp -dsimp (disch := first | omega | (simp only [List.length_cons, List.length_nil, List.length_map, List.length_append, List.length_take, List.length_drop, List.length_replicate, List.length_set, mkG_len] <;> omega) | fail) only [push_cast, if_pos, decide_eq_true, decide_eq_false, simprocAttr, -Nat.reduceSubDiff]))
        rfl
      · rw [if_pos (by omega)] at hEJ
        rw [if_neg hB0]
        have hrl := rmAt_len (l := J) (i := B.toNat) (by omega)
        (simp -dsimp (disch := first | omega | (simp only [List.length_cons, List.length_nil, List.length_map, List.length_append, List.length_take, List.length_drop, List.length_replicate, List.length_set, mkG_len] <;> omega) | fail) only [push_cast, if_pos, decide_eq_true, decide_eq_false, simprocAttr, -Nat.reduceSubDiff]) <;> (repeat (refine (aw_draw (by kernel_rfl)).2 ?_; simp -dsimp (disch := first | omega | (simp only [List.length_cons, List.length_nil, List.length_map, List.length_append, List.length_take, List.length_drop, List.length_replicate, List.length_set, mkG_len] <;> omega) | fail) only [push_cast, if_pos, decide_eq_true, decide_eq_false, simprocAttr, -Nat.reduceSubDiff]))
        refine ih (rmAt J B.toNat) _ (by omega) ⟨⟨by omega, fun a ha => hJ.2 a (by unfold rmAt at ha; rcases List.mem_append.1 ha with q | q; exact List.mem_of_mem_take q; exact List.mem_of_mem_drop q)⟩, hEJ⟩ ?_
        simp -dsimp (disch := first | omega | (simp only [List.length_cons, List.length_nil, List.length_map, List.length_append, List.length_take, List.length_drop, List.length_replicate, List.length_set, mkG_len] <;> omega) | fail) only [push_cast, if_pos, decide_eq_true, decide_eq_false, simprocAttr, -Nat.reduceSubDiff]
  · rw [if_neg hc] at hEJ
    rw [← hEJ] at hM
    simp only at hM
    have h1 : ¬ s.r < bytes J + t.size := by omega
    have h2 : ¬ 1000 ≤ J.length := by omega
    clear ih hEJ hE haw
    (simp -dsimp (disch := first | omega | (simp only [wr_id, List.length_cons, List.length_nil, List.length_map, List.length_append, List.length_take, List.length_drop, List.length_replicate, List.length_set, mkG_len] <;> omega) | fail) only [push_cast, if_pos, decide_eq_true, decide_eq_false, wr_id, simprocAttr, -Nat.reduceSubDiff]) <;> (repeat (refine (aw_draw (by kernel_rfl)).2 ?_; simp -dsimp (disch := first | omega | (simp only [wr_id, List.length_cons, List.length_nil, List.length_map, List.length_append, List.length_take, List.length_drop, List.length_replicate, List.length_set, mkG_len] <;> omega) | fail) only [push_cast, if_pos, decide_eq_true, decide_eq_false, wr_id, simprocAttr, -Nat.reduceSubDiff]))
    refine callC hby ?_
    (simp -dsimp (disch := first | omega | (simp only [wr_id, List.length_cons, List.length_nil, List.length_map, List.length_append, List.length_take, List.length_drop, List.length_replicate, List.length_set, mkG_len] <;> omega) | fail) only [push_cast, if_pos, decide_eq_true, decide_eq_false, wr_id, simprocAttr, -Nat.reduceSubDiff]) <;> (repeat (refine (aw_draw (by kernel_rfl)).2 ?_; simp -dsimp (disch := first | omega | (simp only [wr_id, List.length_cons, List.length_nil, List.length_map, List.length_append, List.length_take, List.length_drop, List.length_replicate, List.length_set, mkG_len] <;> omega) | fail) only [push_cast, if_pos, decide_eq_true, decide_eq_false, wr_id, simprocAttr, -Nat.reduceSubDiff]))
    have hkr := rk_le (sumsI s.w J) u
    have hsl : (sumsI s.w J).length = J.length := by unfold sumsI; rw [List.length_map]
    obtain ⟨r, hr⟩ : ∃ r, r = rk (sumsI s.w J) u := ⟨_, rfl⟩
    refine loop_ind (α := Nat) (fun k => k ≤ rk (sumsI s.w J) u)
      (fun k => ⟨[(1, .sc (.string t)), (2, .sc (.int .i64 now)), (3, .pt 1 0 0), (6, .pt 2 0 0), (8, .pt 5 0 0), (9, .sc (.string u)), (14, .sc (.int .i64 k))],
        [(1, .bx (storeC false s)), (2, .bx [.sc (.int .i64 0), .sc (.int .i64 0), .ow 3 0 0, .ow 4 0 0]), (3, .ar 2 0 []), (4, .ar 1 0 []), (5, .bx [.sc (.int .i64 s.w), .sc (.int .i64 s.r), .ow 6 0 J.length, .ow 7 0 s.P.length]), (6, .ar 2 0 (J.map (itemC true))), (7, .ar 1 0 (s.P.map strR))], 8⟩) (fun k => J.length - k) 0 (Nat.zero_le _) ?_ ?_
    · simp -dsimp (disch := first | omega | (simp only [List.length_cons, List.length_nil, List.length_map, List.length_append, List.length_take, List.length_drop, List.length_replicate, List.length_set, mkG_len] <;> omega) | fail) only [push_cast, if_pos, decide_eq_true, decide_eq_false, simprocAttr, -Nat.reduceSubDiff]
    intro k hk ih
    have fin : k = rk (sumsI s.w J) u → M = ({ s with I := insAt J k ⟨t, now⟩ }, 0) := fun q => by rw [hM, ← q]
    have e1 : J.length = k + (J.length - k) := by omega
    by_cases h : k < J.length
    · obtain ⟨x, hx⟩ := ex_get h
      have hxt : x.t.size ≤ 2097152 := hJ.2 x (List.mem_of_getElem? hx)
      have hxs : (sumsI s.w J)[k]? = some (sumS x.t s.w) := by unfold sumsI; rw [List.getElem?_map, hx]; rfl
      (simp -dsimp (disch := first | omega | (simp only [h, hx, List.length_cons, List.length_nil, List.length_map, List.length_append, List.length_take, List.length_drop, List.length_replicate, List.length_set, mkG_len] <;> omega) | fail) only [push_cast, if_pos, decide_eq_true, decide_eq_false, h, hx, simprocAttr, -Nat.reduceSubDiff]) <;> (repeat (refine (aw_draw (by kernel_rfl)).2 ?_; simp -dsimp (disch := first | omega | (simp only [h, hx, List.length_cons, List.length_nil, List.length_map, List.length_append, List.length_take, List.length_drop, List.length_replicate, List.length_set, mkG_len] <;> omega) | fail) only [push_cast, if_pos, decide_eq_true, decide_eq_false, h, hx, simprocAttr, -Nat.reduceSubDiff]))
      refine callC (specSum x.t s.w (by omega)) ?_
      cases e : lts (sumS x.t s.w) u with
      | true =>
        have := rk_step hk hxs e
        (simp -dsimp (disch := first | omega | (simp only [h, hx, e, List.length_cons, List.length_nil, List.length_map, List.length_append, List.length_take, List.length_drop, List.length_replicate, List.length_set, mkG_len] <;> omega) | fail) only [push_cast, if_pos, decide_eq_true, decide_eq_false, h, hx, e, simprocAttr, -Nat.reduceSubDiff]) <;> (repeat (refine (aw_draw (by kernel_rfl)).2 ?_; simp -dsimp (disch := first | omega | (simp only [h, hx, e, List.length_cons, List.length_nil, List.length_map, List.length_append, List.length_take, List.length_drop, List.length_replicate, List.length_set, mkG_len] <;> omega) | fail) only [push_cast, if_pos, decide_eq_true, decide_eq_false, h, hx, e, simprocAttr, -Nat.reduceSubDiff]))
        refine ih (k + 1) _ (by omega) this ?_
        simp -dsimp (disch := first | omega | (simp only [wr_id, List.length_cons, List.length_nil, List.length_map, List.length_append, List.length_take, List.length_drop, List.length_replicate, List.length_set, mkG_len] <;> omega) | fail) only [push_cast, if_pos, decide_eq_true, decide_eq_false, wr_id, simprocAttr, -Nat.reduceSubDiff]
      | false =>
        have hkk : k = rk (sumsI s.w J) u := by
          rcases Nat.lt_or_eq_of_le hk with q | q
          · obtain ⟨y, hy, hy2⟩ := rk_all q
            rw [hxs] at hy; cases hy; rw [e] at hy2; cases hy2
          · exact q
        have hM := fin hkk
        subst hM
        (simp -dsimp (disch := first | omega | (simp only [h, hx, e, seg_tk, seg_dr, insAt, List.map_append, List.map_cons, List.length_cons, List.length_nil, List.length_map, List.length_append, List.length_take, List.length_drop, List.length_replicate, List.length_set, mkG_len] <;> omega) | fail) only [push_cast, if_pos, decide_eq_true, decide_eq_false, h, hx, e, seg_tk, seg_dr, insAt, List.map_append, List.map_cons, simprocAttr, -Nat.reduceSubDiff]) <;> (repeat (refine (aw_draw (by kernel_rfl)).2 ?_; simp -dsimp (disch := first | omega | (simp only [h, hx, e, seg_tk, seg_dr, insAt, List.map_append, List.map_cons, List.length_cons, List.length_nil, List.length_map, List.length_append, List.length_take, List.length_drop, List.length_replicate, List.length_set, mkG_len] <;> omega) | fail) only [push_cast, if_pos, decide_eq_true, decide_eq_false, h, hx, e, seg_tk, seg_dr, insAt, List.map_append, List.map_cons, simprocAttr, -Nat.reduceSubDiff]))
        simp only [List.append_assoc, List.cons_append, List.nil_append]
    · have hkk : k = rk (sumsI s.w J) u := by omega
      have hM := fin hkk
      subst hM
      have tk : J.take k = J := List.take_of_length_le (by omega)
      (simp -dsimp (disch := first | omega | (simp only [h, tk, seg_tk, seg_dr, insAt, List.map_append, List.map_cons, List.length_cons, List.length_nil, List.length_map, List.length_append, List.length_take, List.length_drop, List.length_replicate, List.length_set, mkG_len] <;> omega) | fail) only [push_cast, if_pos, decide_eq_true, decide_eq_false, h, tk, seg_tk, seg_dr, insAt, List.map_append, List.map_cons, simprocAttr, -Nat.reduceSubDiff]) <;> (repeat (refine (aw_draw (by kernel_rfl)).2 ?_; simp -dsimp (disch := first | omega | (simp only [h, tk, seg_tk, seg_dr, insAt, List.map_append, List.map_cons, List.length_cons, List.length_nil, List.length_map, List.length_append, List.length_take, List.length_drop, List.length_replicate, List.length_set, mkG_len] <;> omega) | fail) only [push_cast, if_pos, decide_eq_true, decide_eq_false, h, tk, seg_tk, seg_dr, insAt, List.map_append, List.map_cons, simprocAttr, -Nat.reduceSubDiff]))
      simp only [List.append_assoc, List.cons_append, List.nil_append]
end Go.Proofs.YtgkncgiglmdnaaaGreatDoor.Mx

/- Names that a store needs: the program. -/
namespace Go.Proofs.YtgkncgiglmdnaaaGreatDoor.Mx
set_option linter.all false
open Go Go.RowKit Go.Proofs
set_option linter.unusedSimpArgs false
theorem mok_pT (l : List Str) : mok (l.map pT) = true := by
  unfold mok
  rw [List.all_eq_true]
  intro e he
  obtain ⟨s, _, rfl⟩ := List.mem_map.1 he
  rfl
theorem insL_app (I L M : List Str) : insL I (L ++ M) = insL (insL I L) M := by unfold insL; rw [List.foldl_append]
theorem nms_none {s : Store} {p : Str} (h : (listF s p).2 = false) : nmsF s p = [p] := by unfold nmsF; rw [list_false h]
def E108 : Env := { T := T0, kp := look [(0, [0]), (1, [1]), (2, [1, 3]), (3, [1, 3, 15, 16, 17]), (4, [1, 3, 15, 16, 17]), (5, [1, 3, 5, 15, 16, 17]), (6, [1, 3, 5, 15, 16, 17]), (7, [1, 3, 6, 15, 16, 17]), (8, [1, 3, 6, 15, 16, 17]), (9, [1, 3, 7, 8, 15, 16, 17]), (10, [1, 3, 7, 15, 16, 17]), (11, [1, 3, 15, 16, 17, 42, 43, 44]), (12, [1, 3, 15, 16, 17, 42, 43, 44]), (13, [1, 3, 10, 15, 16, 17, 42, 43, 44]), (14, [1, 3, 15, 16, 17, 42, 43, 44]), (15, [1, 3, 15, 16, 17]), (16, [3]), (17, [3, 11]), (18, [11, 53]), (19, [11, 53]), (20, [11, 12, 53]), (21, [11]), (22, [11])], dp := look2 [(8, [[], [0], [], [0, 1, 2], [0, 1, 2, 3], [0, 1, 2, 3, 4], [], [6], [0, 1, 2, 3, 4, 5, 6, 7], [0, 1, 2, 3, 4, 5, 6, 7, 8], [0, 1, 2, 3, 4, 5, 6, 7, 8, 9], [0, 1, 2, 3, 4, 5, 6, 7, 8, 9], [], [0, 1, 2, 3, 4, 5, 6, 7, 8, 9, 10, 12], [0, 1, 2, 3, 4, 5, 6, 7, 8, 9, 10, 11, 12, 13]])], md := look3 [(21, 1, [1])] }
attribute [local push_cast] E108
set_option maxRecDepth 20000 in
set_option maxHeartbeats 1000000 in
theorem implNeeded0 (s : Store) (hs : okStore s) (hP : s.P.length ≤ 10) : Does Tryz.prog 108 [.ag (storeC false s)] (.sl true 1 (((nmsL s).foldl addS []).map strR), []) := by
  refine does_of (E := E108) (rs := [.tmp 2]) (lent := []) tOk rfl Tryz.func108 rfl (by decide) rfl rfl (Nat.le_of_ble_eq_true rfl) (Nat.le_of_ble_eq_true rfl) ?_
  rw [← srt_ins]
  (simp -dsimp (disch := first | omega | (simp only [List.length_cons, List.length_nil, List.length_map, List.length_append, List.length_take, List.length_drop, List.length_replicate, List.length_set, mkG_len] <;> omega) | fail) only [push_cast, if_pos, decide_eq_true, decide_eq_false, simprocAttr, -Nat.reduceSubDiff]) <;> (repeat (refine (aw_draw (by kernel_rfl)).2 ?_; simp -dsimp (disch := first | omega | (simp only [List.length_cons, List.length_nil, List.length_map, List.length_append, List.length_take, List.length_drop, List.length_replicate, List.length_set, mkG_len] <;> omega) | fail) only [push_cast, if_pos, decide_eq_true, decide_eq_false, simprocAttr, -Nat.reduceSubDiff]))
  refine loop_ind (α := Nat) (fun i => i ≤ s.P.length)
    (fun i => ⟨[(1, .pt 1 0 0), (3, .mv 2), (15, .sl false 1 (s.P.map strR)), (16, .sc (.int .i64 s.P.length)), (17, .sc (.int .i64 i))], [(1, .bx (storeC false s)), (2, .mp 0 ((insL [] ((s.P.take i).flatMap (nmsF s))).map pT))], 3⟩) (fun i => s.P.length - i) 0 (Nat.zero_le _) ?_ ?_
  · simp -dsimp (disch := first | omega | (simp only [List.take_zero, List.flatMap_nil, insL, List.foldl_nil, List.map_nil, List.length_cons, List.length_nil, List.length_map, List.length_append, List.length_take, List.length_drop, List.length_replicate, List.length_set, mkG_len] <;> omega) | fail) only [push_cast, if_pos, decide_eq_true, decide_eq_false, List.take_zero, List.flatMap_nil, insL, List.foldl_nil, List.map_nil, simprocAttr, -Nat.reduceSubDiff]
  intro i hi ih
  by_cases h : i < s.P.length
  · obtain ⟨p, hp⟩ := ex_get h
    have hst := nms_step hp
    obtain ⟨I, hI⟩ : ∃ I, I = insL [] ((s.P.take i).flatMap (nmsF s)) := ⟨_, rfl⟩
    have hnx : insL [] ((s.P.take (i + 1)).flatMap (nmsF s)) = insL I (nmsF s p) := by rw [hst, insL_app, ← hI]
    rw [← hI]
    have hk := mok_kok (mok_pT I)
    have hks := kset_ins I p
    (simp -dsimp (disch := first | omega | (simp only [h, hp, pMapSet, hk.1, kkey, hks, List.length_cons, List.length_nil, List.length_map, List.length_append, List.length_take, List.length_drop, List.length_replicate, List.length_set, mkG_len] <;> omega) | fail) only [push_cast, if_pos, decide_eq_true, decide_eq_false, h, hp, pMapSet, hk.1, kkey, hks, simprocAttr, -Nat.reduceSubDiff]) <;> (repeat (refine (aw_draw (by kernel_rfl)).2 ?_; simp -dsimp (disch := first | omega | (simp only [h, hp, pMapSet, hk.1, kkey, hks, List.length_cons, List.length_nil, List.length_map, List.length_append, List.length_take, List.length_drop, List.length_replicate, List.length_set, mkG_len] <;> omega) | fail) only [push_cast, if_pos, decide_eq_true, decide_eq_false, h, hp, pMapSet, hk.1, kkey, hks, simprocAttr, -Nat.reduceSubDiff]))
    refine callC (find s p hs) ?_
    by_cases hat : atI s.w p s.I < 0
    · have hf : (listF s p).2 = false := by unfold listF; rw [if_pos hat]
      rw [nms_none hf] at hnx
      have hg : ¬ 0 ≤ atI s.w p s.I := by omega
      (simp -dsimp (disch := first | omega | (simp only [hg, List.length_cons, List.length_nil, List.length_map, List.length_append, List.length_take, List.length_drop, List.length_replicate, List.length_set, mkG_len] <;> omega) | fail) only [push_cast, if_pos, decide_eq_true, decide_eq_false, hg, simprocAttr, -Nat.reduceSubDiff]) <;> (repeat (refine (aw_draw (by kernel_rfl)).2 ?_; simp -dsimp (disch := first | omega | (simp only [hg, List.length_cons, List.length_nil, List.length_map, List.length_append, List.length_take, List.length_drop, List.length_replicate, List.length_set, mkG_len] <;> omega) | fail) only [push_cast, if_pos, decide_eq_true, decide_eq_false, hg, simprocAttr, -Nat.reduceSubDiff]))
      refine ih (i + 1) _ (by omega) h ?_
      rw [hnx]
      simp -dsimp (disch := first | omega | (simp only [wr_id, insL, List.foldl_cons, List.foldl_nil, List.length_cons, List.length_nil, List.length_map, List.length_append, List.length_take, List.length_drop, List.length_replicate, List.length_set, mkG_len] <;> omega) | fail) only [push_cast, if_pos, decide_eq_true, decide_eq_false, wr_id, insL, List.foldl_cons, List.foldl_nil, simprocAttr, -Nat.reduceSubDiff]
    obtain ⟨i0, x0, h1, h2, _⟩ := at_get (w := s.w) (n := p) (I := s.I) (by omega)
    have hxt : x0.t.size ≤ 2097152 := hs.1.2 x0 (List.mem_of_getElem? h2)
    have hil := (List.getElem?_eq_some_iff.1 h2).1
    have hf : listF s p = readL x0.t s.w := by
      unfold listF
      rw [if_neg hat, h1, Int.toNat_natCast, h2]
    rw [h1]
    (simp -dsimp (disch := first | omega | (simp only [h2, List.length_cons, List.length_nil, List.length_map, List.length_append, List.length_take, List.length_drop, List.length_replicate, List.length_set, mkG_len] <;> omega) | fail) only [push_cast, if_pos, decide_eq_true, decide_eq_false, h2, simprocAttr, -Nat.reduceSubDiff]) <;> (repeat (refine (aw_draw (by kernel_rfl)).2 ?_; simp -dsimp (disch := first | omega | (simp only [h2, List.length_cons, List.length_nil, List.length_map, List.length_append, List.length_take, List.length_drop, List.length_replicate, List.length_set, mkG_len] <;> omega) | fail) only [push_cast, if_pos, decide_eq_true, decide_eq_false, h2, simprocAttr, -Nat.reduceSubDiff]))
    refine callC (implReadList x0.t s.w (by omega)) ?_
    rw [← hf]
    have hlo := list_ok (s := s) (n := p)
    have hnn := nms_none (s := s) (p := p)
    rw [show nmsF s p = p :: (listF s p).1.S from rfl] at hnx hnn
    generalize listF s p = R at *
    obtain ⟨l, b⟩ := R
    simp only at hlo hnx hnn ⊢
    have hl := hlo.1
    cases b with
    | false =>
      rw [hnn rfl] at hnx
      (simp -dsimp (disch := first | omega | (simp only [List.length_cons, List.length_nil, List.length_map, List.length_append, List.length_take, List.length_drop, List.length_replicate, List.length_set, mkG_len] <;> omega) | fail) only [push_cast, if_pos, decide_eq_true, decide_eq_false, simprocAttr, -Nat.reduceSubDiff]) <;> (repeat (refine (aw_draw (by kernel_rfl)).2 ?_; simp -dsimp (disch := first | omega | (simp only [List.length_cons, List.length_nil, List.length_map, List.length_append, List.length_take, List.length_drop, List.length_replicate, List.length_set, mkG_len] <;> omega) | fail) only [push_cast, if_pos, decide_eq_true, decide_eq_false, simprocAttr, -Nat.reduceSubDiff]))
      refine ih (i + 1) _ (by omega) h ?_
      rw [hnx]
      simp -dsimp (disch := first | omega | (simp only [wr_id, insL, List.foldl_cons, List.foldl_nil, List.length_cons, List.length_nil, List.length_map, List.length_append, List.length_take, List.length_drop, List.length_replicate, List.length_set, mkG_len] <;> omega) | fail) only [push_cast, if_pos, decide_eq_true, decide_eq_false, wr_id, insL, List.foldl_cons, List.foldl_nil, simprocAttr, -Nat.reduceSubDiff]
    | true =>
    (simp -dsimp (disch := first | omega | (simp only [List.length_cons, List.length_nil, List.length_map, List.length_append, List.length_take, List.length_drop, List.length_replicate, List.length_set, mkG_len] <;> omega) | fail) only [push_cast, if_pos, decide_eq_true, decide_eq_false, simprocAttr, -Nat.reduceSubDiff]) <;> (repeat (refine (aw_draw (by kernel_rfl)).2 ?_; simp -dsimp (disch := first | omega | (simp only [List.length_cons, List.length_nil, List.length_map, List.length_append, List.length_take, List.length_drop, List.length_replicate, List.length_set, mkG_len] <;> omega) | fail) only [push_cast, if_pos, decide_eq_true, decide_eq_false, simprocAttr, -Nat.reduceSubDiff]))
    refine loop_ind (α := Nat) (fun j => j ≤ l.S.length)
      (fun j => ⟨[(1, .pt 1 0 0), (3, .mv 2), (15, .sl false 1 (s.P.map strR)), (16, .sc (.int .i64 s.P.length)), (17, .sc (.int .i64 i)), (42, .ow 3 0 l.S.length), (43, .sc (.int .i64 l.S.length)), (44, .sc (.int .i64 j))], [(1, .bx (storeC false s)), (2, .mp 0 ((insL (ins I p) (l.S.take j)).map pT)), (3, .ar 1 0 (l.S.map strR))], 4⟩) (fun j => l.S.length - j) 0 (Nat.zero_le _) ?_ ?_
    · simp -dsimp (disch := first | omega | (simp only [List.take_zero, insL, List.foldl_nil, List.length_cons, List.length_nil, List.length_map, List.length_append, List.length_take, List.length_drop, List.length_replicate, List.length_set, mkG_len] <;> omega) | fail) only [push_cast, if_pos, decide_eq_true, decide_eq_false, List.take_zero, insL, List.foldl_nil, simprocAttr, -Nat.reduceSubDiff]
    intro j hj ih2
    by_cases h3 : j < l.S.length
    · obtain ⟨x, hx⟩ := ex_get h3
      have hst2 : insL (ins I p) (l.S.take (j + 1)) = ins (insL (ins I p) (l.S.take j)) x := by rw [take_step hx, insL_app]; rfl
      generalize insL (ins I p) (l.S.take j) = J at *
      have hk := mok_kok (mok_pT J)
      have hks := kset_ins J x
      (simp -dsimp (disch := first | omega | (simp only [h3, hx, pMapSet, hk.1, kkey, hks, List.length_cons, List.length_nil, List.length_map, List.length_append, List.length_take, List.length_drop, List.length_replicate, List.length_set, mkG_len] <;> omega) | fail) only [push_cast, if_pos, decide_eq_true, decide_eq_false, h3, hx, pMapSet, hk.1, kkey, hks, simprocAttr, -Nat.reduceSubDiff]) <;> (repeat (refine (aw_draw (by kernel_rfl)).2 ?_; simp -dsimp (disch := first | omega | (simp only [h3, hx, pMapSet, hk.1, kkey, hks, List.length_cons, List.length_nil, List.length_map, List.length_append, List.length_take, List.length_drop, List.length_replicate, List.length_set, mkG_len] <;> omega) | fail) only [push_cast, if_pos, decide_eq_true, decide_eq_false, h3, hx, pMapSet, hk.1, kkey, hks, simprocAttr, -Nat.reduceSubDiff]))
      refine ih2 (j + 1) _ (by omega) h3 ?_
      rw [hst2]
      simp -dsimp (disch := first | omega | (simp only [wr_id, List.length_cons, List.length_nil, List.length_map, List.length_append, List.length_take, List.length_drop, List.length_replicate, List.length_set, mkG_len] <;> omega) | fail) only [push_cast, if_pos, decide_eq_true, decide_eq_false, wr_id, simprocAttr, -Nat.reduceSubDiff]
    · have e : l.S.take j = l.S := List.take_of_length_le (by omega)
      rw [e]
      (simp -dsimp (disch := first | omega | (simp only [h3, List.length_cons, List.length_nil, List.length_map, List.length_append, List.length_take, List.length_drop, List.length_replicate, List.length_set, mkG_len] <;> omega) | fail) only [push_cast, if_pos, decide_eq_true, decide_eq_false, h3, simprocAttr, -Nat.reduceSubDiff]) <;> (repeat (refine (aw_draw (by kernel_rfl)).2 ?_; simp -dsimp (disch := first | omega | (simp only [h3, List.length_cons, List.length_nil, List.length_map, List.length_append, List.length_take, List.length_drop, List.length_replicate, List.length_set, mkG_len] <;> omega) | fail) only [push_cast, if_pos, decide_eq_true, decide_eq_false, h3, simprocAttr, -Nat.reduceSubDiff]))
      refine ih (i + 1) _ (by omega) h ?_
      rw [hnx]
      simp -dsimp (disch := first | omega | (simp only [wr_id, insL, List.foldl_cons, List.length_cons, List.length_nil, List.length_map, List.length_append, List.length_take, List.length_drop, List.length_replicate, List.length_set, mkG_len] <;> omega) | fail) only [push_cast, if_pos, decide_eq_true, decide_eq_false, wr_id, insL, List.foldl_cons, simprocAttr, -Nat.reduceSubDiff]
  have e : s.P.take i = s.P := List.take_of_length_le (by omega)
  rw [e, show s.P.flatMap (nmsF s) = nmsL s from rfl]
  have hll : (insL [] (nmsL s)).length ≤ 3760 := by
    have h1 := nodup_len (insL_nodup List.nodup_nil (nmsL s)) (m := nmsL s) (fun x hx => by
      rcases insL_mem.1 hx with q | q
      · cases q
      · exact q)
    have h2 := nms_len s s.P
    unfold nmsL at h1 ⊢
    omega
  clear ih
  generalize insL [] (nmsL s) = l at *
  (simp -dsimp (disch := first | omega | (simp only [h, List.length_cons, List.length_nil, List.length_map, List.length_append, List.length_take, List.length_drop, List.length_replicate, List.length_set, mkG_len] <;> omega) | fail) only [push_cast, if_pos, decide_eq_true, decide_eq_false, h, simprocAttr, -Nat.reduceSubDiff]) <;> (repeat (refine (aw_draw (by kernel_rfl)).2 ?_; simp -dsimp (disch := first | omega | (simp only [h, List.length_cons, List.length_nil, List.length_map, List.length_append, List.length_take, List.length_drop, List.length_replicate, List.length_set, mkG_len] <;> omega) | fail) only [push_cast, if_pos, decide_eq_true, decide_eq_false, h, simprocAttr, -Nat.reduceSubDiff]))
  rw [rgk_mv (h := by rfl)]
  simp -dsimp (disch := first | omega | (simp only [List.length_cons, List.length_nil, List.length_map, List.length_append, List.length_take, List.length_drop, List.length_replicate, List.length_set, mkG_len] <;> omega) | fail) only [push_cast, if_pos, decide_eq_true, decide_eq_false, simprocAttr, -Nat.reduceSubDiff]
  refine loop_ind (α := List Str × List Str × Option (Value × Value)) (fun p => (p.1 ++ p.2.1).Perm l) (fun p => ⟨[(11, .ow 1 0 p.1.length), (53, .pt 2 0 0)], [(1, .ar 1 0 (p.1.map strR)), (2, .im (p.2.1.map pT) p.2.2)], 3⟩) (fun p => p.2.1.length) ([], l, none) (List.Perm.refl _) ?_ ?_
  · simp -dsimp (disch := first | omega | (simp only [List.length_cons, List.length_nil, List.length_map, List.length_append, List.length_take, List.length_drop, List.length_replicate, List.length_set, mkG_len] <;> omega) | fail) only [push_cast, if_pos, decide_eq_true, decide_eq_false, simprocAttr, -Nat.reduceSubDiff]
  rintro ⟨acc, rem, last⟩ hp ih
  (simp -dsimp (disch := first | omega | (simp only [List.length_cons, List.length_nil, List.length_map, List.length_append, List.length_take, List.length_drop, List.length_replicate, List.length_set, mkG_len] <;> omega) | fail) only [push_cast, if_pos, decide_eq_true, decide_eq_false, simprocAttr, -Nat.reduceSubDiff]) <;> (repeat (refine (aw_draw (by kernel_rfl)).2 ?_; simp -dsimp (disch := first | omega | (simp only [List.length_cons, List.length_nil, List.length_map, List.length_append, List.length_take, List.length_drop, List.length_replicate, List.length_set, mkG_len] <;> omega) | fail) only [push_cast, if_pos, decide_eq_true, decide_eq_false, simprocAttr, -Nat.reduceSubDiff]))
  refine next_im (pT_plain rem) (fun h0 => ?_) (fun kv r' hpm => ?_)
  · have h0 : rem = [] := by simpa using h0
    subst h0
    simp only [List.append_nil] at hp
    have hlen : acc.length ≤ 2097152 := by rw [hp.length_eq]; omega
    (simp -dsimp (disch := first | omega | (simp only [List.length_cons, List.length_nil, List.length_map, List.length_append, List.length_take, List.length_drop, List.length_replicate, List.length_set, mkG_len] <;> omega) | fail) only [push_cast, if_pos, decide_eq_true, decide_eq_false, simprocAttr, -Nat.reduceSubDiff]) <;> (repeat (refine (aw_draw (by kernel_rfl)).2 ?_; simp -dsimp (disch := first | omega | (simp only [List.length_cons, List.length_nil, List.length_map, List.length_append, List.length_take, List.length_drop, List.length_replicate, List.length_set, mkG_len] <;> omega) | fail) only [push_cast, if_pos, decide_eq_true, decide_eq_false, simprocAttr, -Nat.reduceSubDiff]))
    refine callC_eq (doesSort acc (by omega)) ?_ ?_
    · simp -dsimp (disch := first | omega | (simp only [List.length_cons, List.length_nil, List.length_map, List.length_append, List.length_take, List.length_drop, List.length_replicate, List.length_set, mkG_len] <;> omega) | fail) only [push_cast, if_pos, decide_eq_true, decide_eq_false, simprocAttr, -Nat.reduceSubDiff]
    · (simp -dsimp (disch := first | omega | (simp only [srt_perm hp, List.length_cons, List.length_nil, List.length_map, List.length_append, List.length_take, List.length_drop, List.length_replicate, List.length_set, mkG_len] <;> omega) | fail) only [push_cast, if_pos, decide_eq_true, decide_eq_false, srt_perm hp, simprocAttr, -Nat.reduceSubDiff]) <;> (repeat (refine (aw_draw (by kernel_rfl)).2 ?_; simp -dsimp (disch := first | omega | (simp only [srt_perm hp, List.length_cons, List.length_nil, List.length_map, List.length_append, List.length_take, List.length_drop, List.length_replicate, List.length_set, mkG_len] <;> omega) | fail) only [push_cast, if_pos, decide_eq_true, decide_eq_false, srt_perm hp, simprocAttr, -Nat.reduceSubDiff]))
      rw [seg_full (by rw [List.length_map, srt_len, hp.length_eq]; exact Nat.le_refl _)]
  · obtain ⟨s, q, rfl, rfl, hq⟩ := map_pT_perm hpm
    have hp2 : (acc ++ [s] ++ q).Perm l := by
      rw [List.append_assoc]
      exact ((List.Perm.refl acc).append hq.symm).trans hp
    have hlen := hp2.length_eq
    simp only [List.length_append, List.length_cons, List.length_nil] at hlen
    (simp -dsimp (disch := first | omega | (simp only [enb_im _ _ (show (plain (pT s).1 && plain (pT s).2) = true from rfl), List.length_cons, List.length_nil, List.length_map, List.length_append, List.length_take, List.length_drop, List.length_replicate, List.length_set, mkG_len] <;> omega) | fail) only [push_cast, if_pos, decide_eq_true, decide_eq_false, enb_im _ _ (show (plain (pT s).1 && plain (pT s).2) = true from rfl), simprocAttr, -Nat.reduceSubDiff]) <;> (repeat (refine (aw_draw (by kernel_rfl)).2 ?_; simp -dsimp (disch := first | omega | (simp only [enb_im _ _ (show (plain (pT s).1 && plain (pT s).2) = true from rfl), List.length_cons, List.length_nil, List.length_map, List.length_append, List.length_take, List.length_drop, List.length_replicate, List.length_set, mkG_len] <;> omega) | fail) only [push_cast, if_pos, decide_eq_true, decide_eq_false, enb_im _ _ (show (plain (pT s).1 && plain (pT s).2) = true from rfl), simprocAttr, -Nat.reduceSubDiff]))
    refine ih (acc ++ [s], q, some (pT s)) _ (by have := hq.length_eq; simp only [List.length_cons] at this; show q.length < rem.length; omega) hp2 ?_
    simp -dsimp (disch := first | omega | (simp only [wr_id, List.map_append, List.length_append, List.length_cons, List.length_nil, Nat.zero_add, List.length_cons, List.length_nil, List.length_map, List.length_append, List.length_take, List.length_drop, List.length_replicate, List.length_set, mkG_len] <;> omega) | fail) only [push_cast, if_pos, decide_eq_true, decide_eq_false, wr_id, List.map_append, List.length_append, List.length_cons, List.length_nil, Nat.zero_add, simprocAttr, -Nat.reduceSubDiff]
    rfl
end Go.Proofs.YtgkncgiglmdnaaaGreatDoor.Mx

/- A machine over values for Go functions, proved sound, and functions run on it: texts F50, F46, F51, F52. -/
import Derived.Test.YtkkmgjhfjhcdmaaGreatDoorStoresXaj
import Derived.Test.YtkkmgjhfjhcdmaaGreatDoorStoresXak
/- Texts put into stores: the reference. -/
namespace Go.Proofs.YtkkmgjhfjhcdmaaGreatDoor.Mx
set_option linter.all false
open Go Go.RowKit Go.Proofs
set_option linter.unusedSimpArgs false
theorem seg_tk {α : Type} (l : List α) (f : α → Row) (n : Nat) : seg (l.map f) 0 n = (l.take n).map f := by simp [seg, List.map_take]
theorem seg_dr {α : Type} (l : List α) (f : α → Row) (a n : Nat) (h : l.length ≤ a + n) : seg (l.map f) a n = (l.drop a).map f := by
  unfold seg; rw [List.take_of_length_le (by simp; omega), List.map_drop]
def awayF (s : Store) (N : List Str) : Store × Bool := if bestF s.w N s.I s.I.length < 0 then (s, false) else ({ s with I := rmAt s.I (bestF s.w N s.I s.I.length).toNat }, true)
def E69 : Env := { T := T0, kp := look [(0, [0, 1]), (1, [1, 2, 4]), (2, [1, 2, 4, 6]), (3, [1, 2, 4, 6, 7]), (4, [1, 2, 4, 6, 7]), (5, [1, 2, 4, 6, 7]), (6, [1, 2, 4, 7]), (7, [2, 4, 6]), (8, [2, 4]), (9, [2, 4, 6]), (10, [2, 4])], dp := look2 [(5, [[], [], [1], [], [1, 2, 3], [1, 2, 3, 4], [1, 2, 3, 4, 5], [], [7], [1, 2, 3, 4, 5, 6, 7, 8], [0, 1, 2, 3, 4, 5, 6, 7, 8, 9], [0, 1, 2, 3, 4, 5, 6, 7, 8, 9, 10], [0, 1, 2, 3, 4, 5, 6, 7, 8, 9, 10, 11], [0, 1, 2, 3, 4, 5, 6, 7, 8, 9, 10, 11, 12], [0, 1, 2, 3, 4, 5, 6, 7, 8, 9, 10, 11, 12, 13], [0, 1, 2, 3, 4, 5, 6, 7, 8, 9, 10, 11, 12, 13, 14], [0, 1, 2, 3, 4, 5, 6, 7, 8, 9, 10, 11, 12, 13, 14, 15], [0, 1, 2, 3, 4, 5, 6, 7, 8, 9, 10, 11, 12, 13, 14, 15, 16], [0, 1, 2, 3, 4, 5, 6, 7, 8, 9, 10, 11, 12, 13, 14, 15], [0, 1, 2, 3, 4, 5, 6, 7, 8, 9, 10, 11, 12, 13, 14, 15, 16, 17, 18], [0, 1, 2, 3, 4, 5, 6, 7, 8, 9, 10, 11, 12, 13, 14, 15, 16, 17, 18, 19], [0, 1, 2, 3, 4, 5, 6, 7, 8, 9, 10, 11, 12, 13, 14, 15, 16, 17, 18, 19, 20], [0, 1, 2, 3, 4, 5, 6, 7, 8, 9, 10, 11, 12, 13, 14, 15], [0, 1, 2, 3, 4, 5, 6, 7, 8, 9, 10, 11, 12, 13, 14, 15, 22], [0, 1, 2, 3, 4, 5, 6, 7, 8, 9, 10, 11, 12, 13, 14, 15], [0, 1, 2, 3, 4, 5, 6, 7, 8, 9, 10, 11, 12, 13, 14, 15, 22, 23, 24], [0, 1, 2, 3, 4, 5, 6, 7, 8, 9, 10, 11, 12, 13, 14, 15, 22, 23, 24, 25], [0, 1, 2, 3, 4, 5, 6, 7, 8, 9, 10, 11, 12, 13, 14, 15, 22, 23, 24, 25, 26], [0, 1, 2, 3, 4, 5, 6, 7, 8, 9, 10, 11, 12, 13, 14, 15, 16, 17, 18, 19, 20, 21, 22, 23, 24, 25, 26, 27], [0, 1, 2, 3, 4, 5, 6, 7, 8, 9, 10, 11, 12, 13, 14, 15, 16, 17, 18, 19, 20, 21, 22, 23, 24, 25, 26, 27, 28], [0, 1, 2, 3, 4, 5, 6, 7, 8, 9, 10, 11, 12, 13, 14, 15, 16, 17, 18, 19, 20, 21, 22, 23, 24, 25, 26, 27, 28, 29]]), (9, [[], [], [1], [], [1, 2, 3], [0, 1, 2, 3, 4], [], [6], [], [8], [6, 7, 8, 9], [0, 1, 2, 3, 4, 5, 6, 7, 8, 9, 10], [0, 1, 2, 3, 4, 5, 6, 7, 8, 9, 10, 11], [0, 1, 2, 3, 4, 5, 6, 7, 8, 9, 10, 11, 12]])] }
attribute [local push_cast] E69
set_option maxRecDepth 20000 in
set_option maxHeartbeats 4000000 in
theorem l4Away (s : Store) (N : List Str) (hs : okStore s) (hN : N.length ≤ 2097152) : Does Tryz.prog 69 [.ag (storeC true s), .sl false 1 (N.map strR)] (.tu [.ag (storeC true (awayF s N).1), .sc (.bool (awayF s N).2)], []) := by
  refine does_of (E := E69) (rs := [.cell 4 26, .tmp 5]) (lent := []) tOk rfl Tryz.func69 rfl (by decide) rfl rfl (Nat.le_of_ble_eq_true rfl) (Nat.le_of_ble_eq_true rfl) ?_
  obtain ⟨M, hM⟩ : ∃ M, M = awayF s N := ⟨_, rfl⟩
  rw [← hM]
  unfold awayF at hM
  have hl := hs.1.1
  (simp -dsimp (disch := first | omega | (simp only [LR] <;> omega) | fail) only [push_cast, simprocAttr, -Nat.reduceSubDiff]) <;> (repeat (refine (aw_draw (by kernel_rfl)).2 ?_; simp -dsimp (disch := first | omega | (simp only [LR] <;> omega) | fail) only [push_cast, simprocAttr, -Nat.reduceSubDiff]))
  refine loop_ind (α := Nat) (fun i => i ≤ s.I.length)
    (fun i => ⟨[(1, .sl false 1 (N.map strR)), (2, .pt 1 0 0), (4, .pt 4 0 0), (6, .sc (.int .i64 (bestF s.w N s.I i))), (7, .sc (.int .i64 i))], [(1, .bx [.sc (.int .i64 s.w), .sc (.int .i64 s.r), .ow 2 0 s.I.length, .ow 3 0 s.P.length]), (2, .ar 2 0 (s.I.map (itemC true))), (3, .ar 1 0 (s.P.map strR)), (4, .bx [.sc (.int .i64 0), .sc (.int .i64 0), .ow 5 0 0, .ow 6 0 0]), (5, .ar 2 0 []), (6, .ar 1 0 [])], 7⟩) (fun i => s.I.length - i) 0 (Nat.zero_le _) ?_ ?_
  · simp -dsimp (disch := first | omega | (simp only [bestF, LR] <;> omega) | fail) only [push_cast, bestF, simprocAttr, -Nat.reduceSubDiff]
  intro i hi ih
  by_cases h : i < s.I.length
  · obtain ⟨x, hx⟩ := ex_get h
    have hxt : x.t.size ≤ 2097152 := hs.1.2 x (List.mem_of_getElem? hx)
    have hst : bestF s.w N s.I (i + 1) = if inL N (sumS x.t s.w) = false ∧ (bestF s.w N s.I i < 0 ∨ x.u < usedAt s.I (bestF s.w N s.I i)) then (i : Int) else bestF s.w N s.I i := by rw [bestF, hx]
    have hr := best_rng s.w N s.I i
    obtain ⟨B, hB⟩ : ∃ B, B = bestF s.w N s.I i := ⟨_, rfl⟩
    rw [← hB] at hst hr ⊢
    (simp -dsimp (disch := first | omega | (simp only [h, hx, LR] <;> omega) | fail) only [push_cast, h, hx, simprocAttr, -Nat.reduceSubDiff]) <;> (repeat (refine (aw_draw (by kernel_rfl)).2 ?_; simp -dsimp (disch := first | omega | (simp only [h, hx, LR] <;> omega) | fail) only [push_cast, h, hx, simprocAttr, -Nat.reduceSubDiff]))
    refine callC (specSum x.t s.w (by omega)) ?_
    (simp -dsimp (disch := first | omega | (simp only [h, hx, LR] <;> omega) | fail) only [push_cast, h, hx, simprocAttr, -Nat.reduceSubDiff]) <;> (repeat (refine (aw_draw (by kernel_rfl)).2 ?_; simp -dsimp (disch := first | omega | (simp only [h, hx, LR] <;> omega) | fail) only [push_cast, h, hx, simprocAttr, -Nat.reduceSubDiff]))
    refine callC (l2In N (sumS x.t s.w) hN) ?_
    cases hin : inL N (sumS x.t s.w) with
    | true =>
      rw [if_neg (by rw [hin]; simp)] at hst
      (simp -dsimp (disch := first | omega | (simp only [h, hx, LR] <;> omega) | fail) only [push_cast, h, hx, simprocAttr, -Nat.reduceSubDiff]) <;> (repeat (refine (aw_draw (by kernel_rfl)).2 ?_; simp -dsimp (disch := first | omega | (simp only [h, hx, LR] <;> omega) | fail) only [push_cast, h, hx, simprocAttr, -Nat.reduceSubDiff]))
      refine ih (i + 1) _ (by omega) h ?_
      rw [hst]
      simp -dsimp (disch := first | omega | (simp only [wr_id, LR] <;> omega) | fail) only [push_cast, wr_id, simprocAttr, -Nat.reduceSubDiff]
    | false =>
    by_cases hB0 : B < 0
    · rw [if_pos ⟨hin, .inl hB0⟩] at hst
      (simp -dsimp (disch := first | omega | (simp only [h, hx, hB0, LR] <;> omega) | fail) only [push_cast, h, hx, hB0, simprocAttr, -Nat.reduceSubDiff]) <;> (repeat (refine (aw_draw (by kernel_rfl)).2 ?_; simp -dsimp (disch := first | omega | (simp only [h, hx, hB0, LR] <;> omega) | fail) only [push_cast, h, hx, hB0, simprocAttr, -Nat.reduceSubDiff]))
      refine ih (i + 1) _ (by omega) h ?_
      rw [hst]
      simp -dsimp (disch := first | omega | (simp only [wr_id, LR] <;> omega) | fail) only [push_cast, wr_id, simprocAttr, -Nat.reduceSubDiff]
    obtain ⟨k, hk⟩ : ∃ k : Nat, B = k := ⟨B.toNat, by omega⟩
    rw [hk] at hst hB0 hr ⊢
    obtain ⟨y, hy⟩ := ex_get (show k < s.I.length by omega)
    have hua : usedAt s.I (k : Int) = y.u := by unfold usedAt; rw [Int.toNat_natCast, hy]
    rw [hua] at hst
    by_cases hlt : x.u < y.u
    · rw [if_pos ⟨hin, .inr hlt⟩] at hst
      (simp -dsimp (disch := first | omega | (simp only [h, hx, hy, hB0, hlt, LR] <;> omega) | fail) only [push_cast, h, hx, hy, hB0, hlt, simprocAttr, -Nat.reduceSubDiff]) <;> (repeat (refine (aw_draw (by kernel_rfl)).2 ?_; simp -dsimp (disch := first | omega | (simp only [h, hx, hy, hB0, hlt, LR] <;> omega) | fail) only [push_cast, h, hx, hy, hB0, hlt, simprocAttr, -Nat.reduceSubDiff]))
      refine ih (i + 1) _ (by omega) h ?_
      rw [hst]
      simp -dsimp (disch := first | omega | (simp only [wr_id, LR] <;> omega) | fail) only [push_cast, wr_id, simprocAttr, -Nat.reduceSubDiff]
    · rw [if_neg (by rintro ⟨_, q | q⟩; exact hB0 q; exact hlt q)] at hst
      (simp -dsimp (disch := first | omega | (simp only [h, hx, hy, hB0, hlt, LR] <;> omega) | fail) only [push_cast, h, hx, hy, hB0, hlt, simprocAttr, -Nat.reduceSubDiff]) <;> (repeat (refine (aw_draw (by kernel_rfl)).2 ?_; simp -dsimp (disch := first | omega | (simp only [h, hx, hy, hB0, hlt, LR] <;> omega) | fail) only [push_cast, h, hx, hy, hB0, hlt, simprocAttr, -Nat.reduceSubDiff]))
      refine ih (i + 1) _ (by omega) h ?_
      rw [hst]
      simp -dsimp (disch := first | omega | (simp only [wr_id, LR] <;> omega) | fail) only [push_cast, wr_id, simprocAttr, -Nat.reduceSubDiff]
  · have hi : i = s.I.length := by omega
    subst hi
    have hr := best_rng s.w N s.I s.I.length
    obtain ⟨B, hB⟩ : ∃ B, B = bestF s.w N s.I s.I.length := ⟨_, rfl⟩
    rw [← hB] at hr hM ⊢
    by_cases hB0 : B < 0
    · rw [if_pos hB0] at hM
      subst hM
      (simp -dsimp (disch := first | omega | (simp only [hB0, LR] <;> omega) | fail) only [push_cast, hB0, simprocAttr, -Nat.reduceSubDiff]) <;> (repeat (refine (aw_draw (by kernel_rfl)).2 ?_; simp -dsimp (disch := first | omega | (simp only [hB0, LR] <;> omega) | fail) only [push_cast, hB0, simprocAttr, -Nat.reduceSubDiff]))
    obtain ⟨k, hk⟩ : ∃ k : Nat, B = k := ⟨B.toNat, by omega⟩
    rw [if_neg hB0] at hM
    rw [hk, Int.toNat_natCast] at hM
    rw [hk] at hB0 hr ⊢
    subst hM
    have e1 : ((k : Int) + 1).toNat = k + 1 := by omega
    (simp -dsimp (disch := first | omega | (simp only [hB0, e1, seg_tk, seg_dr, wr_id, rmAt, List.map_append, LR] <;> omega) | fail) only [push_cast, hB0, e1, seg_tk, seg_dr, wr_id, rmAt, List.map_append, simprocAttr, -Nat.reduceSubDiff]) <;> (repeat (refine (aw_draw (by kernel_rfl)).2 ?_; simp -dsimp (disch := first | omega | (simp only [hB0, e1, seg_tk, seg_dr, wr_id, rmAt, List.map_append, LR] <;> omega) | fail) only [push_cast, hB0, e1, seg_tk, seg_dr, wr_id, rmAt, List.map_append, simprocAttr, -Nat.reduceSubDiff]))
theorem valid_P {s : Store} (hv : validSt s = true) : s.P.length ≤ 10 := by
  unfold validSt at hv
  simp only [Bool.and_eq_true, decide_eq_true_eq] at hv
  exact hv.1.1.1.2
theorem needL_len {s : Store} (hP : s.P.length ≤ 10) : (needL s).length ≤ 3760 := by
  have h1 := foldS_len (nmsL s) []
  have h2 := nms_len s s.P
  unfold needL
  unfold nmsL at h1 ⊢
  rw [List.length_nil] at h1
  omega
theorem set_item (I : List Item) (k : Nat) (t : Str) (u : Int) : (I.map (itemC true)).set k [.sc (.string t), .sc (.int .i64 u)] = (I.set k ⟨t, u⟩).map (itemC true) := by
  rw [List.map_set]; rfl
def E14 : Env := { T := T0, kp := look [(0, [0, 1, 2]), (1, [1, 2, 3, 6]), (2, [6]), (3, [1, 2, 3, 6]), (4, [1, 2, 3, 6, 8]), (5, [1, 2, 3, 6, 8, 9]), (6, [1, 2, 3, 6, 8, 9, 10]), (7, [1, 2, 6, 8, 10]), (8, [6]), (9, [2, 6, 8, 10]), (10, [6, 8]), (11, [1, 2, 3, 6, 8, 9]), (12, [1, 2, 3, 6, 8, 9, 11]), (13, [1, 2, 3, 6, 8, 9, 11]), (14, [1, 2, 3, 6, 8, 9, 11, 12, 13]), (15, [6]), (16, [1, 2, 3, 6, 8, 9, 11, 12]), (17, [1, 2, 3, 6, 8, 9]), (18, [1, 2, 3, 6, 8, 9, 14]), (19, [1, 2, 3, 6, 8, 9, 14]), (20, [1, 2, 6, 8, 14]), (21, [6, 8])], dp := look2 [(12, [[], [0], [], [2], [0, 1, 2, 3], [], [5], [0, 1, 2, 3, 4, 5, 6], [0, 1, 2, 3, 4, 5, 6, 7], [0, 1, 2, 3, 4, 5, 6, 7, 8], [0, 1, 2, 3, 4, 5, 6, 7, 8, 9], [0, 1, 2, 3, 4, 5, 6, 7, 8, 9, 10], [0, 1, 2, 3, 4, 5, 6, 7, 8, 9, 10, 11], [0, 1, 2, 3, 4, 5, 6, 7, 8, 9, 10, 11, 12]]), (18, [[], [], [1], [1, 2], [0, 1, 2, 3], [0, 1, 2, 3, 4], [0, 1, 2, 3, 4, 5], [0, 1, 2, 3, 4, 5, 6], [0, 1, 2, 3, 4, 5], [0, 1, 2, 3, 4, 5, 6, 7, 8], [0, 1, 2, 3, 4, 5, 6, 7, 8, 9], [0, 1, 2, 3, 4, 5, 6, 7, 8, 9, 10], [0, 1, 2, 3, 4, 5], [0, 1, 2, 3, 4, 5, 12], [0, 1, 2, 3, 4, 5, 6, 7, 8, 9, 10, 11, 12, 13], [0, 1, 2, 3, 4, 5], [0, 1, 2, 3, 4, 5, 6, 7, 8, 9, 10, 11, 12, 13, 14, 15], [0, 1, 2, 3, 4, 5, 6, 7, 8, 9, 10, 11, 12, 13, 14, 15, 16]]), (20, [[], [], [1], [], [1, 2, 3], [0, 1, 2, 3, 4], [], [], [6, 7], [6, 7, 8], [0, 1, 2, 3, 4, 5, 6, 7, 8, 9], [], [11], [], [11, 12, 13], [0, 1, 2, 3, 4, 5, 6, 7, 8, 9, 10, 11, 12, 13, 14], [0, 1, 2, 3, 4, 5, 6, 7, 8, 9, 10, 11, 12, 13, 14, 15], [0, 1, 2, 3, 4, 5, 6, 7, 8, 9, 10, 11, 12, 13, 14, 15, 16]])], md := look3 [(13, 2, [2, 0])] }
attribute [local push_cast] E14
set_option maxRecDepth 20000 in
set_option maxHeartbeats 4000000 in
theorem specPut (s : Store) (t : Str) (now : Int) (hs : okStore s) (ht : t.size ≤ 2097152) : Does Tryz.prog 14 [.ag (storeC false s), .sc (.string t), .sc (.int .i64 now)] (.tu [.ag (storeC true (putF s t now).1), .sc (.int .i64 (putF s t now).2)], []) := by
  refine does_of (E := E14) (rs := [.cell 6 26, .tmp 7]) (lent := []) tOk rfl Tryz.func14 rfl (by decide) rfl rfl (Nat.le_of_ble_eq_true rfl) (Nat.le_of_ble_eq_true rfl) ?_
  obtain ⟨M, hM⟩ : ∃ M, M = putF s t now := ⟨_, rfl⟩
  rw [← hM]
  unfold putF at hM
  (simp -dsimp (disch := first | omega | (simp only [LR] <;> omega) | fail) only [push_cast, simprocAttr, -Nat.reduceSubDiff]) <;> (repeat (refine (aw_draw (by kernel_rfl)).2 ?_; simp -dsimp (disch := first | omega | (simp only [LR] <;> omega) | fail) only [push_cast, simprocAttr, -Nat.reduceSubDiff]))
  refine callC (specValidStore s hs) ?_
  cases hv : validSt s with
  | false =>
    rw [hv, Bool.false_and, Bool.false_and, if_pos rfl] at hM
    subst hM
    (simp -dsimp (disch := first | omega | (simp only [LR] <;> omega) | fail) only [push_cast, simprocAttr, -Nat.reduceSubDiff]) <;> (repeat (refine (aw_draw (by kernel_rfl)).2 ?_; simp -dsimp (disch := first | omega | (simp only [LR] <;> omega) | fail) only [push_cast, simprocAttr, -Nat.reduceSubDiff]))
    rfl
  | true =>
  (simp -dsimp (disch := first | omega | (simp only [LR] <;> omega) | fail) only [push_cast, simprocAttr, -Nat.reduceSubDiff]) <;> (repeat (refine (aw_draw (by kernel_rfl)).2 ?_; simp -dsimp (disch := first | omega | (simp only [LR] <;> omega) | fail) only [push_cast, simprocAttr, -Nat.reduceSubDiff]))
  refine callC (l1In ..) ?_
  cases hz : inB t.size 1 7000 with
  | false =>
    rw [hz, Bool.and_false, Bool.false_and, if_pos rfl] at hM
    subst hM
    (simp -dsimp (disch := first | omega | (simp only [LR] <;> omega) | fail) only [push_cast, simprocAttr, -Nat.reduceSubDiff]) <;> (repeat (refine (aw_draw (by kernel_rfl)).2 ?_; simp -dsimp (disch := first | omega | (simp only [LR] <;> omega) | fail) only [push_cast, simprocAttr, -Nat.reduceSubDiff]))
    rfl
  | true =>
  (simp -dsimp (disch := first | omega | (simp only [LR] <;> omega) | fail) only [push_cast, simprocAttr, -Nat.reduceSubDiff]) <;> (repeat (refine (aw_draw (by kernel_rfl)).2 ?_; simp -dsimp (disch := first | omega | (simp only [LR] <;> omega) | fail) only [push_cast, simprocAttr, -Nat.reduceSubDiff]))
  refine callC (l1In ..) ?_
  cases hn : inB now 0 1000000 with
  | false =>
    rw [hn, Bool.and_false, if_pos rfl] at hM
    subst hM
    (simp -dsimp (disch := first | omega | (simp only [LR] <;> omega) | fail) only [push_cast, simprocAttr, -Nat.reduceSubDiff]) <;> (repeat (refine (aw_draw (by kernel_rfl)).2 ?_; simp -dsimp (disch := first | omega | (simp only [LR] <;> omega) | fail) only [push_cast, simprocAttr, -Nat.reduceSubDiff]))
    rfl
  | true =>
  rw [if_neg (by rw [hv, hz, hn]; simp)] at hM
  have hP := valid_P hv
  (simp -dsimp (disch := first | omega | (simp only [LR] <;> omega) | fail) only [push_cast, simprocAttr, -Nat.reduceSubDiff]) <;> (repeat (refine (aw_draw (by kernel_rfl)).2 ?_; simp -dsimp (disch := first | omega | (simp only [LR] <;> omega) | fail) only [push_cast, simprocAttr, -Nat.reduceSubDiff]))
  refine callC (l4Copy s hs) ?_
  (simp -dsimp (disch := first | omega | (simp only [LR] <;> omega) | fail) only [push_cast, simprocAttr, -Nat.reduceSubDiff]) <;> (repeat (refine (aw_draw (by kernel_rfl)).2 ?_; simp -dsimp (disch := first | omega | (simp only [LR] <;> omega) | fail) only [push_cast, simprocAttr, -Nat.reduceSubDiff]))
  refine callC (specSum t s.w (by omega)) ?_
  obtain ⟨u, hu⟩ : ∃ u, u = sumS t s.w := ⟨_, rfl⟩
  rw [← hu] at hM ⊢
  (simp -dsimp (disch := first | omega | (simp only [LR] <;> omega) | fail) only [push_cast, simprocAttr, -Nat.reduceSubDiff]) <;> (repeat (refine (aw_draw (by kernel_rfl)).2 ?_; simp -dsimp (disch := first | omega | (simp only [LR] <;> omega) | fail) only [push_cast, simprocAttr, -Nat.reduceSubDiff]))
  refine callC (l4At s u hs) ?_
  by_cases hat : 0 ≤ atI s.w u s.I
  · rw [if_pos hat] at hM
    obtain ⟨i, x, h1, h2, _⟩ := at_get hat
    have hil := (List.getElem?_eq_some_iff.1 h2).1
    rw [textAt_some h1 h2, h1, Int.toNat_natCast] at hM
    rw [h1]
    by_cases he : x.t = t
    · rw [if_pos he] at hM
      subst hM
      (simp -dsimp (disch := first | omega | (simp only [h2, he, set_item, LR] <;> omega) | fail) only [push_cast, h2, he, set_item, simprocAttr, -Nat.reduceSubDiff]) <;> (repeat (refine (aw_draw (by kernel_rfl)).2 ?_; simp -dsimp (disch := first | omega | (simp only [h2, he, set_item, LR] <;> omega) | fail) only [push_cast, h2, he, set_item, simprocAttr, -Nat.reduceSubDiff]))
    · rw [if_neg he] at hM
      subst hM
      (simp -dsimp (disch := first | omega | (simp only [h2, he, LR] <;> omega) | fail) only [push_cast, h2, he, simprocAttr, -Nat.reduceSubDiff]) <;> (repeat (refine (aw_draw (by kernel_rfl)).2 ?_; simp -dsimp (disch := first | omega | (simp only [h2, he, LR] <;> omega) | fail) only [push_cast, h2, he, simprocAttr, -Nat.reduceSubDiff]))
      rfl
  rw [if_neg hat] at hM
  (simp -dsimp (disch := first | omega | (simp only [hat, LR] <;> omega) | fail) only [push_cast, hat, simprocAttr, -Nat.reduceSubDiff]) <;> (repeat (refine (aw_draw (by kernel_rfl)).2 ?_; simp -dsimp (disch := first | omega | (simp only [hat, LR] <;> omega) | fail) only [push_cast, hat, simprocAttr, -Nat.reduceSubDiff]))
  refine callC (l4Needed s hs hP) ?_
  have hNl := needL_len hP
  rw [show (nmsL s).foldl addS [] = needL s from rfl]
  generalize needL s = N at hM hNl ⊢
  (simp -dsimp (disch := first | omega | (simp only [LR] <;> omega) | fail) only [push_cast, simprocAttr, -Nat.reduceSubDiff]) <;> (repeat (refine (aw_draw (by kernel_rfl)).2 ?_; simp -dsimp (disch := first | omega | (simp only [LR] <;> omega) | fail) only [push_cast, simprocAttr, -Nat.reduceSubDiff]))
  obtain ⟨E, hE⟩ : ∃ E, E = evF s.w s.r N t.size s.I := ⟨_, rfl⟩
  rw [← hE] at hM
  refine loop_ind (α := List Item) (fun J => okL okItem J ∧ evF s.w s.r N t.size J = E)
    (fun J => ⟨[(1, .sc (.string t)), (2, .sc (.int .i64 now)), (3, .pt 1 0 0), (6, .pt 2 0 0), (8, .pt 5 0 0), (9, .sc (.string u)), (11, .ow 8 0 N.length)],
      [(1, .bx (storeC false s)), (2, .bx [.sc (.int .i64 0), .sc (.int .i64 0), .ow 3 0 0, .ow 4 0 0]), (3, .ar 2 0 []), (4, .ar 1 0 []), (5, .bx [.sc (.int .i64 s.w), .sc (.int .i64 s.r), .ow 6 0 J.length, .ow 7 0 s.P.length]), (6, .ar 2 0 (J.map (itemC true))), (7, .ar 1 0 (s.P.map strR)), (8, .ar 1 0 (N.map strR))], 9⟩) (fun J => J.length) s.I ⟨hs.1, hE.symm⟩ ?_ ?_
  · simp -dsimp (disch := first | omega | (simp only [LR] <;> omega) | fail) only [push_cast, simprocAttr, -Nat.reduceSubDiff]
  rintro J ⟨hJ, hEJ⟩ ih
  have hsJ : okStore { s with I := J } := ⟨hJ, hs.2⟩
  have hJl := hJ.1
  have hb := bytes_le hJ
  have hb0 := bytes_nn J
  have hby := l4Bytes { s with I := J } hsJ
  have haw := l4Away { s with I := J } N hsJ (by omega)
  simp only at hby
  unfold awayF at haw
  simp only at haw
  rw [evF] at hEJ
  by_cases hc : s.r < bytes J + t.size ∨ 1000 ≤ J.length
  · rw [if_pos hc] at hEJ
    have hr := best_rng s.w N J J.length
    obtain ⟨B, hB⟩ : ∃ B, B = bestF s.w N J J.length := ⟨_, rfl⟩
    rw [← hB] at hEJ hr haw
    have two : (s.r < bytes J + t.size ∧ s.r < bytes J + t.size) ∨ (¬ s.r < bytes J + t.size ∧ 1000 ≤ J.length) := by omega
    rcases two with ⟨h1, h2⟩ | ⟨h1, h2⟩
    all_goals
      (simp -dsimp (disch := first | omega | (simp only [wr_id, LR] <;> omega) | fail) only [push_cast, wr_id, simprocAttr, -Nat.reduceSubDiff]) <;> (repeat (refine (aw_draw (by kernel_rfl)).2 ?_; simp -dsimp (disch := first | omega | (simp only [wr_id, LR] <;> omega) | fail) only [push_cast, wr_id, simprocAttr, -Nat.reduceSubDiff]))
      refine callC hby ?_
      (simp -dsimp (disch := first | omega | (simp only [wr_id, LR] <;> omega) | fail) only [push_cast, wr_id, simprocAttr, -Nat.reduceSubDiff]) <;> (repeat (refine (aw_draw (by kernel_rfl)).2 ?_; simp -dsimp (disch := first | omega | (simp only [wr_id, LR] <;> omega) | fail) only [push_cast, wr_id, simprocAttr, -Nat.reduceSubDiff]))
      refine callC haw ?_
      by_cases hB0 : B < 0
      · rw [if_neg (by omega)] at hEJ
        rw [← hEJ] at hM
        rw [if_pos hB0]
        subst hM
        (simp -dsimp (disch := first | omega | (simp only [LR] <;> omega) | fail) only [push_cast, simprocAttr, -Nat.reduceSubDiff]) <;> (repeat (refine (aw_draw (by kernel_rfl)).2 ?_; simp -dsimp (disch := first | omega | (simp only [LR] <;> omega) | fail) only [push_cast, simprocAttr, -Nat.reduceSubDiff]))
        rfl
      · rw [if_pos (by omega)] at hEJ
        rw [if_neg hB0]
        have hrl := rmAt_len (l := J) (i := B.toNat) (by omega)
        (simp -dsimp (disch := first | omega | (simp only [LR] <;> omega) | fail) only [push_cast, simprocAttr, -Nat.reduceSubDiff]) <;> (repeat (refine (aw_draw (by kernel_rfl)).2 ?_; simp -dsimp (disch := first | omega | (simp only [LR] <;> omega) | fail) only [push_cast, simprocAttr, -Nat.reduceSubDiff]))
        refine ih (rmAt J B.toNat) _ (by omega) ⟨⟨by omega, fun a ha => hJ.2 a (by unfold rmAt at ha; rcases List.mem_append.1 ha with q | q; exact List.mem_of_mem_take q; exact List.mem_of_mem_drop q)⟩, hEJ⟩ ?_
        simp -dsimp (disch := first | omega | (simp only [LR] <;> omega) | fail) only [push_cast, simprocAttr, -Nat.reduceSubDiff]
  · rw [if_neg hc] at hEJ
    rw [← hEJ] at hM
    simp only at hM
    have h1 : ¬ s.r < bytes J + t.size := by omega
    have h2 : ¬ 1000 ≤ J.length := by omega
    clear ih hEJ hE haw
    (simp -dsimp (disch := first | omega | (simp only [wr_id, LR] <;> omega) | fail) only [push_cast, wr_id, simprocAttr, -Nat.reduceSubDiff]) <;> (repeat (refine (aw_draw (by kernel_rfl)).2 ?_; simp -dsimp (disch := first | omega | (simp only [wr_id, LR] <;> omega) | fail) only [push_cast, wr_id, simprocAttr, -Nat.reduceSubDiff]))
    refine callC hby ?_
    (simp -dsimp (disch := first | omega | (simp only [wr_id, LR] <;> omega) | fail) only [push_cast, wr_id, simprocAttr, -Nat.reduceSubDiff]) <;> (repeat (refine (aw_draw (by kernel_rfl)).2 ?_; simp -dsimp (disch := first | omega | (simp only [wr_id, LR] <;> omega) | fail) only [push_cast, wr_id, simprocAttr, -Nat.reduceSubDiff]))
    have hkr := rk_le (sumsI s.w J) u
    have hsl : (sumsI s.w J).length = J.length := by unfold sumsI; rw [List.length_map]
    obtain ⟨r, hr⟩ : ∃ r, r = rk (sumsI s.w J) u := ⟨_, rfl⟩
    refine loop_ind (α := Nat) (fun k => k ≤ rk (sumsI s.w J) u)
      (fun k => ⟨[(1, .sc (.string t)), (2, .sc (.int .i64 now)), (3, .pt 1 0 0), (6, .pt 2 0 0), (8, .pt 5 0 0), (9, .sc (.string u)), (14, .sc (.int .i64 k))],
        [(1, .bx (storeC false s)), (2, .bx [.sc (.int .i64 0), .sc (.int .i64 0), .ow 3 0 0, .ow 4 0 0]), (3, .ar 2 0 []), (4, .ar 1 0 []), (5, .bx [.sc (.int .i64 s.w), .sc (.int .i64 s.r), .ow 6 0 J.length, .ow 7 0 s.P.length]), (6, .ar 2 0 (J.map (itemC true))), (7, .ar 1 0 (s.P.map strR))], 8⟩) (fun k => J.length - k) 0 (Nat.zero_le _) ?_ ?_
    · simp -dsimp (disch := first | omega | (simp only [LR] <;> omega) | fail) only [push_cast, simprocAttr, -Nat.reduceSubDiff]
    intro k hk ih
    have fin : k = rk (sumsI s.w J) u → M = ({ s with I := insAt J k ⟨t, now⟩ }, 0) := fun q => by rw [hM, ← q]
    have e1 : J.length = k + (J.length - k) := by omega
    by_cases h : k < J.length
    · obtain ⟨x, hx⟩ := ex_get h
      have hxt : x.t.size ≤ 2097152 := hJ.2 x (List.mem_of_getElem? hx)
      have hxs : (sumsI s.w J)[k]? = some (sumS x.t s.w) := by unfold sumsI; rw [List.getElem?_map, hx]; rfl
      (simp -dsimp (disch := first | omega | (simp only [h, hx, LR] <;> omega) | fail) only [push_cast, h, hx, simprocAttr, -Nat.reduceSubDiff]) <;> (repeat (refine (aw_draw (by kernel_rfl)).2 ?_; simp -dsimp (disch := first | omega | (simp only [h, hx, LR] <;> omega) | fail) only [push_cast, h, hx, simprocAttr, -Nat.reduceSubDiff]))
      refine callC (specSum x.t s.w (by omega)) ?_
      cases e : lts (sumS x.t s.w) u with
      | true =>
        have := rk_step hk hxs e
        (simp -dsimp (disch := first | omega | (simp only [h, hx, e, LR] <;> omega) | fail) only [push_cast, h, hx, e, simprocAttr, -Nat.reduceSubDiff]) <;> (repeat (refine (aw_draw (by kernel_rfl)).2 ?_; simp -dsimp (disch := first | omega | (simp only [h, hx, e, LR] <;> omega) | fail) only [push_cast, h, hx, e, simprocAttr, -Nat.reduceSubDiff]))
        refine ih (k + 1) _ (by omega) this ?_
        simp -dsimp (disch := first | omega | (simp only [wr_id, LR] <;> omega) | fail) only [push_cast, wr_id, simprocAttr, -Nat.reduceSubDiff]
      | false =>
        have hkk : k = rk (sumsI s.w J) u := by
          rcases Nat.lt_or_eq_of_le hk with q | q
          · obtain ⟨y, hy, hy2⟩ := rk_all q
            rw [hxs] at hy; cases hy; rw [e] at hy2; cases hy2
          · exact q
        have hM := fin hkk
        subst hM
        (simp -dsimp (disch := first | omega | (simp only [h, hx, e, seg_tk, seg_dr, insAt, List.map_append, List.map_cons, LR] <;> omega) | fail) only [push_cast, h, hx, e, seg_tk, seg_dr, insAt, List.map_append, List.map_cons, simprocAttr, -Nat.reduceSubDiff]) <;> (repeat (refine (aw_draw (by kernel_rfl)).2 ?_; simp -dsimp (disch := first | omega | (simp only [h, hx, e, seg_tk, seg_dr, insAt, List.map_append, List.map_cons, LR] <;> omega) | fail) only [push_cast, h, hx, e, seg_tk, seg_dr, insAt, List.map_append, List.map_cons, simprocAttr, -Nat.reduceSubDiff]))
        simp only [List.append_assoc, List.cons_append, List.nil_append]
    · have hkk : k = rk (sumsI s.w J) u := by omega
      have hM := fin hkk
      subst hM
      have tk : J.take k = J := List.take_of_length_le (by omega)
      (simp -dsimp (disch := first | omega | (simp only [h, tk, seg_tk, seg_dr, insAt, List.map_append, List.map_cons, LR] <;> omega) | fail) only [push_cast, h, tk, seg_tk, seg_dr, insAt, List.map_append, List.map_cons, simprocAttr, -Nat.reduceSubDiff]) <;> (repeat (refine (aw_draw (by kernel_rfl)).2 ?_; simp -dsimp (disch := first | omega | (simp only [h, tk, seg_tk, seg_dr, insAt, List.map_append, List.map_cons, LR] <;> omega) | fail) only [push_cast, h, tk, seg_tk, seg_dr, insAt, List.map_append, List.map_cons, simprocAttr, -Nat.reduceSubDiff]))
      simp only [List.append_assoc, List.cons_append, List.nil_append]
end Go.Proofs.YtkkmgjhfjhcdmaaGreatDoor.Mx

/- Names that a store needs: the program. -/
namespace Go.Proofs.YtkkmgjhfjhcdmaaGreatDoor.Mx
set_option linter.all false
open Go Go.RowKit Go.Proofs
set_option linter.unusedSimpArgs false
theorem mok_pT (l : List Str) : mok (l.map pT) = true := by
  unfold mok
  rw [List.all_eq_true]
  intro e he
  obtain ⟨s, _, rfl⟩ := List.mem_map.1 he
  rfl
theorem insL_app (I L M : List Str) : insL I (L ++ M) = insL (insL I L) M := by unfold insL; rw [List.foldl_append]
theorem nms_none {s : Store} {p : Str} (h : (listF s p).2 = false) : nmsF s p = [p] := by unfold nmsF; rw [list_false h]
def E58 : Env := { T := T0, kp := look [(0, [0]), (1, [1]), (2, [1, 3]), (3, [1, 3, 15, 16, 17]), (4, [1, 3, 15, 16, 17]), (5, [1, 3, 5, 15, 16, 17]), (6, [1, 3, 5, 15, 16, 17]), (7, [1, 3, 6, 15, 16, 17]), (8, [1, 3, 6, 15, 16, 17]), (9, [1, 3, 7, 8, 15, 16, 17]), (10, [1, 3, 7, 15, 16, 17]), (11, [1, 3, 15, 16, 17, 42, 43, 44]), (12, [1, 3, 15, 16, 17, 42, 43, 44]), (13, [1, 3, 10, 15, 16, 17, 42, 43, 44]), (14, [1, 3, 15, 16, 17, 42, 43, 44]), (15, [1, 3, 15, 16, 17]), (16, [3]), (17, [3, 11]), (18, [11, 53]), (19, [11, 53]), (20, [11, 12, 53]), (21, [11]), (22, [11])], dp := look2 [(8, [[], [0], [], [0, 1, 2], [0, 1, 2, 3], [0, 1, 2, 3, 4], [], [6], [0, 1, 2, 3, 4, 5, 6, 7], [0, 1, 2, 3, 4, 5, 6, 7, 8], [0, 1, 2, 3, 4, 5, 6, 7, 8, 9], [0, 1, 2, 3, 4, 5, 6, 7, 8, 9], [], [0, 1, 2, 3, 4, 5, 6, 7, 8, 9, 10, 12], [0, 1, 2, 3, 4, 5, 6, 7, 8, 9, 10, 11, 12, 13]])], md := look3 [(21, 1, [1])] }
attribute [local push_cast] E58
set_option maxRecDepth 20000 in
set_option maxHeartbeats 1000000 in
theorem implNeeded0 (s : Store) (hs : okStore s) (hP : s.P.length ≤ 10) : Does Tryz.prog 58 [.ag (storeC false s)] (.sl true 1 (((nmsL s).foldl addS []).map strR), []) := by
  refine does_of (E := E58) (rs := [.tmp 2]) (lent := []) tOk rfl Tryz.func58 rfl (by decide) rfl rfl (Nat.le_of_ble_eq_true rfl) (Nat.le_of_ble_eq_true rfl) ?_
  rw [← srt_ins]
  (simp -dsimp (disch := first | omega | (simp only [LR] <;> omega) | fail) only [push_cast, simprocAttr, -Nat.reduceSubDiff]) <;> (repeat (refine (aw_draw (by kernel_rfl)).2 ?_; simp -dsimp (disch := first | omega | (simp only [LR] <;> omega) | fail) only [push_cast, simprocAttr, -Nat.reduceSubDiff]))
  refine loop_ind (α := Nat) (fun i => i ≤ s.P.length)
    (fun i => ⟨[(1, .pt 1 0 0), (3, .mv 2), (15, .sl false 1 (s.P.map strR)), (16, .sc (.int .i64 s.P.length)), (17, .sc (.int .i64 i))], [(1, .bx (storeC false s)), (2, .mp 0 ((insL [] ((s.P.take i).flatMap (nmsF s))).map pT))], 3⟩) (fun i => s.P.length - i) 0 (Nat.zero_le _) ?_ ?_
  · simp -dsimp (disch := first | omega | (simp only [List.take_zero, List.flatMap_nil, insL, List.foldl_nil, List.map_nil, LR] <;> omega) | fail) only [push_cast, List.take_zero, List.flatMap_nil, insL, List.foldl_nil, List.map_nil, simprocAttr, -Nat.reduceSubDiff]
  intro i hi ih
  by_cases h : i < s.P.length
  · obtain ⟨p, hp⟩ := ex_get h
    have hst := nms_step hp
    obtain ⟨I, hI⟩ : ∃ I, I = insL [] ((s.P.take i).flatMap (nmsF s)) := ⟨_, rfl⟩
    have hnx : insL [] ((s.P.take (i + 1)).flatMap (nmsF s)) = insL I (nmsF s p) := by rw [hst, insL_app, ← hI]
    rw [← hI]
    have hk := mok_kok (mok_pT I)
    have hks := kset_ins I p
    (simp -dsimp (disch := first | omega | (simp only [h, hp, pMapSet, hk.1, kkey, hks, LR] <;> omega) | fail) only [push_cast, h, hp, pMapSet, hk.1, kkey, hks, simprocAttr, -Nat.reduceSubDiff]) <;> (repeat (refine (aw_draw (by kernel_rfl)).2 ?_; simp -dsimp (disch := first | omega | (simp only [h, hp, pMapSet, hk.1, kkey, hks, LR] <;> omega) | fail) only [push_cast, h, hp, pMapSet, hk.1, kkey, hks, simprocAttr, -Nat.reduceSubDiff]))
    refine callC (find s p hs) ?_
    by_cases hat : atI s.w p s.I < 0
    · have hf : (listF s p).2 = false := by unfold listF; rw [if_pos hat]
      rw [nms_none hf] at hnx
      have hg : ¬ 0 ≤ atI s.w p s.I := by omega
      (simp -dsimp (disch := first | omega | (simp only [hg, LR] <;> omega) | fail) only [push_cast, hg, simprocAttr, -Nat.reduceSubDiff]) <;> (repeat (refine (aw_draw (by kernel_rfl)).2 ?_; simp -dsimp (disch := first | omega | (simp only [hg, LR] <;> omega) | fail) only [push_cast, hg, simprocAttr, -Nat.reduceSubDiff]))
      refine ih (i + 1) _ (by omega) h ?_
      rw [hnx]
      simp -dsimp (disch := first | omega | (simp only [wr_id, insL, List.foldl_cons, List.foldl_nil, LR] <;> omega) | fail) only [push_cast, wr_id, insL, List.foldl_cons, List.foldl_nil, simprocAttr, -Nat.reduceSubDiff]
    obtain ⟨i0, x0, h1, h2, _⟩ := at_get (w := s.w) (n := p) (I := s.I) (by omega)
    have hxt : x0.t.size ≤ 2097152 := hs.1.2 x0 (List.mem_of_getElem? h2)
    have hil := (List.getElem?_eq_some_iff.1 h2).1
    have hf : listF s p = readL x0.t s.w := by
      unfold listF
      rw [if_neg hat, h1, Int.toNat_natCast, h2]
    rw [h1]
    (simp -dsimp (disch := first | omega | (simp only [h2, LR] <;> omega) | fail) only [push_cast, h2, simprocAttr, -Nat.reduceSubDiff]) <;> (repeat (refine (aw_draw (by kernel_rfl)).2 ?_; simp -dsimp (disch := first | omega | (simp only [h2, LR] <;> omega) | fail) only [push_cast, h2, simprocAttr, -Nat.reduceSubDiff]))
    refine callC (implReadList x0.t s.w (by omega)) ?_
    rw [← hf]
    have hlo := list_ok (s := s) (n := p)
    have hnn := nms_none (s := s) (p := p)
    rw [show nmsF s p = p :: (listF s p).1.S from rfl] at hnx hnn
    generalize listF s p = R at *
    obtain ⟨l, b⟩ := R
    simp only at hlo hnx hnn ⊢
    have hl := hlo.1
    cases b with
    | false =>
      rw [hnn rfl] at hnx
      (simp -dsimp (disch := first | omega | (simp only [LR] <;> omega) | fail) only [push_cast, simprocAttr, -Nat.reduceSubDiff]) <;> (repeat (refine (aw_draw (by kernel_rfl)).2 ?_; simp -dsimp (disch := first | omega | (simp only [LR] <;> omega) | fail) only [push_cast, simprocAttr, -Nat.reduceSubDiff]))
      refine ih (i + 1) _ (by omega) h ?_
      rw [hnx]
      simp -dsimp (disch := first | omega | (simp only [wr_id, insL, List.foldl_cons, List.foldl_nil, LR] <;> omega) | fail) only [push_cast, wr_id, insL, List.foldl_cons, List.foldl_nil, simprocAttr, -Nat.reduceSubDiff]
    | true =>
    (simp -dsimp (disch := first | omega | (simp only [LR] <;> omega) | fail) only [push_cast, simprocAttr, -Nat.reduceSubDiff]) <;> (repeat (refine (aw_draw (by kernel_rfl)).2 ?_; simp -dsimp (disch := first | omega | (simp only [LR] <;> omega) | fail) only [push_cast, simprocAttr, -Nat.reduceSubDiff]))
    refine loop_ind (α := Nat) (fun j => j ≤ l.S.length)
      (fun j => ⟨[(1, .pt 1 0 0), (3, .mv 2), (15, .sl false 1 (s.P.map strR)), (16, .sc (.int .i64 s.P.length)), (17, .sc (.int .i64 i)), (42, .ow 3 0 l.S.length), (43, .sc (.int .i64 l.S.length)), (44, .sc (.int .i64 j))], [(1, .bx (storeC false s)), (2, .mp 0 ((insL (ins I p) (l.S.take j)).map pT)), (3, .ar 1 0 (l.S.map strR))], 4⟩) (fun j => l.S.length - j) 0 (Nat.zero_le _) ?_ ?_
    · simp -dsimp (disch := first | omega | (simp only [List.take_zero, insL, List.foldl_nil, LR] <;> omega) | fail) only [push_cast, List.take_zero, insL, List.foldl_nil, simprocAttr, -Nat.reduceSubDiff]
    intro j hj ih2
    by_cases h3 : j < l.S.length
    · obtain ⟨x, hx⟩ := ex_get h3
      have hst2 : insL (ins I p) (l.S.take (j + 1)) = ins (insL (ins I p) (l.S.take j)) x := by rw [take_step hx, insL_app]; rfl
      generalize insL (ins I p) (l.S.take j) = J at *
      have hk := mok_kok (mok_pT J)
      have hks := kset_ins J x
      (simp -dsimp (disch := first | omega | (simp only [h3, hx, pMapSet, hk.1, kkey, hks, LR] <;> omega) | fail) only [push_cast, h3, hx, pMapSet, hk.1, kkey, hks, simprocAttr, -Nat.reduceSubDiff]) <;> (repeat (refine (aw_draw (by kernel_rfl)).2 ?_; simp -dsimp (disch := first | omega | (simp only [h3, hx, pMapSet, hk.1, kkey, hks, LR] <;> omega) | fail) only [push_cast, h3, hx, pMapSet, hk.1, kkey, hks, simprocAttr, -Nat.reduceSubDiff]))
      refine ih2 (j + 1) _ (by omega) h3 ?_
      rw [hst2]
      simp -dsimp (disch := first | omega | (simp only [wr_id, LR] <;> omega) | fail) only [push_cast, wr_id, simprocAttr, -Nat.reduceSubDiff]
    · have e : l.S.take j = l.S := List.take_of_length_le (by omega)
      rw [e]
      (simp -dsimp (disch := first | omega | (simp only [h3, LR] <;> omega) | fail) only [push_cast, h3, simprocAttr, -Nat.reduceSubDiff]) <;> (repeat (refine (aw_draw (by kernel_rfl)).2 ?_; simp -dsimp (disch := first | omega | (simp only [h3, LR] <;> omega) | fail) only [push_cast, h3, simprocAttr, -Nat.reduceSubDiff]))
      refine ih (i + 1) _ (by omega) h ?_
      rw [hnx]
      simp -dsimp (disch := first | omega | (simp only [wr_id, insL, List.foldl_cons, LR] <;> omega) | fail) only [push_cast, wr_id, insL, List.foldl_cons, simprocAttr, -Nat.reduceSubDiff]
  have e : s.P.take i = s.P := List.take_of_length_le (by omega)
  rw [e, show s.P.flatMap (nmsF s) = nmsL s from rfl]
  have hll : (insL [] (nmsL s)).length ≤ 3760 := by
    have h1 := nodup_len (insL_nodup List.nodup_nil (nmsL s)) (m := nmsL s) (fun x hx => by
      rcases insL_mem.1 hx with q | q
      · cases q
      · exact q)
    have h2 := nms_len s s.P
    unfold nmsL at h1 ⊢
    omega
  clear ih
  generalize insL [] (nmsL s) = l at *
  (simp -dsimp (disch := first | omega | (simp only [h, LR] <;> omega) | fail) only [push_cast, h, simprocAttr, -Nat.reduceSubDiff]) <;> (repeat (refine (aw_draw (by kernel_rfl)).2 ?_; simp -dsimp (disch := first | omega | (simp only [h, LR] <;> omega) | fail) only [push_cast, h, simprocAttr, -Nat.reduceSubDiff]))
  rw [rgk_mv (h := by rfl)]
  simp -dsimp (disch := first | omega | (simp only [LR] <;> omega) | fail) only [push_cast, simprocAttr, -Nat.reduceSubDiff]
  refine loop_ind (α := List Str × List Str × Option (Value × Value)) (fun p => (p.1 ++ p.2.1).Perm l) (fun p => ⟨[(11, .ow 1 0 p.1.length), (53, .pt 2 0 0)], [(1, .ar 1 0 (p.1.map strR)), (2, .im (p.2.1.map pT) p.2.2)], 3⟩) (fun p => p.2.1.length) ([], l, none) (List.Perm.refl _) ?_ ?_
  · simp -dsimp (disch := first | omega | (simp only [LR] <;> omega) | fail) only [push_cast, simprocAttr, -Nat.reduceSubDiff]
  rintro ⟨acc, rem, last⟩ hp ih
  (simp -dsimp (disch := first | omega | (simp only [LR] <;> omega) | fail) only [push_cast, simprocAttr, -Nat.reduceSubDiff]) <;> (repeat (refine (aw_draw (by kernel_rfl)).2 ?_; simp -dsimp (disch := first | omega | (simp only [LR] <;> omega) | fail) only [push_cast, simprocAttr, -Nat.reduceSubDiff]))
  refine next_im (pT_plain rem) (fun h0 => ?_) (fun kv r' hpm => ?_)
  · have h0 : rem = [] := by simpa using h0
    subst h0
    simp only [List.append_nil] at hp
    have hlen : acc.length ≤ 2097152 := by rw [hp.length_eq]; omega
    (simp -dsimp (disch := first | omega | (simp only [LR] <;> omega) | fail) only [push_cast, simprocAttr, -Nat.reduceSubDiff]) <;> (repeat (refine (aw_draw (by kernel_rfl)).2 ?_; simp -dsimp (disch := first | omega | (simp only [LR] <;> omega) | fail) only [push_cast, simprocAttr, -Nat.reduceSubDiff]))
    refine callC_eq (doesSort acc (by omega)) ?_ ?_
    · simp -dsimp (disch := first | omega | (simp only [LR] <;> omega) | fail) only [push_cast, simprocAttr, -Nat.reduceSubDiff]
    · (simp -dsimp (disch := first | omega | (simp only [srt_perm hp, LR] <;> omega) | fail) only [push_cast, srt_perm hp, simprocAttr, -Nat.reduceSubDiff]) <;> (repeat (refine (aw_draw (by kernel_rfl)).2 ?_; simp -dsimp (disch := first | omega | (simp only [srt_perm hp, LR] <;> omega) | fail) only [push_cast, srt_perm hp, simprocAttr, -Nat.reduceSubDiff]))
      rw [seg_full (by rw [List.length_map, srt_len, hp.length_eq]; exact Nat.le_refl _)]
  · obtain ⟨s, q, rfl, rfl, hq⟩ := map_pT_perm hpm
    have hp2 : (acc ++ [s] ++ q).Perm l := by
      rw [List.append_assoc]
      exact ((List.Perm.refl acc).append hq.symm).trans hp
    have hlen := hp2.length_eq
    simp only [List.length_append, List.length_cons, List.length_nil] at hlen
    (simp -dsimp (disch := first | omega | (simp only [enb_im _ _ (show (plain (pT s).1 && plain (pT s).2) = true from rfl), LR] <;> omega) | fail) only [push_cast, enb_im _ _ (show (plain (pT s).1 && plain (pT s).2) = true from rfl), simprocAttr, -Nat.reduceSubDiff]) <;> (repeat (refine (aw_draw (by kernel_rfl)).2 ?_; simp -dsimp (disch := first | omega | (simp only [enb_im _ _ (show (plain (pT s).1 && plain (pT s).2) = true from rfl), LR] <;> omega) | fail) only [push_cast, enb_im _ _ (show (plain (pT s).1 && plain (pT s).2) = true from rfl), simprocAttr, -Nat.reduceSubDiff]))
    refine ih (acc ++ [s], q, some (pT s)) _ (by have := hq.length_eq; simp only [List.length_cons] at this; show q.length < rem.length; omega) hp2 ?_
    simp -dsimp (disch := first | omega | (simp only [wr_id, List.map_append, List.length_append, List.length_cons, List.length_nil, Nat.zero_add, LR] <;> omega) | fail) only [push_cast, wr_id, List.map_append, List.length_append, List.length_cons, List.length_nil, Nat.zero_add, simprocAttr, -Nat.reduceSubDiff]
    rfl
def E11 : Env := { T := T0, kp := look [(0, [0]), (1, [1]), (2, []), (3, [1])] }
attribute [local push_cast] E11
theorem implNeeded (s : Store) (hs : okStore s) : Does Tryz.prog 11 [.ag (storeC false s)] (.sl true 1 ((needF s).map strR), []) := by
  refine does_of (E := E11) (rs := [.tmp 2]) (lent := []) tOk rfl Tryz.func11 rfl (by decide) rfl rfl (Nat.le_of_ble_eq_true rfl) (Nat.le_of_ble_eq_true rfl) ?_
  obtain ⟨M, hM⟩ : ∃ M, M = needF s := ⟨_, rfl⟩
  rw [← hM]
  unfold needF at hM
  (simp -dsimp (disch := first | omega | (simp only [LR] <;> omega) | fail) only [push_cast, simprocAttr, -Nat.reduceSubDiff]) <;> (repeat (refine (aw_draw (by kernel_rfl)).2 ?_; simp -dsimp (disch := first | omega | (simp only [LR] <;> omega) | fail) only [push_cast, simprocAttr, -Nat.reduceSubDiff]))
  refine callC (implValidStore s hs) ?_
  cases hv : validSt s with
  | false =>
    rw [if_pos hv] at hM
    subst hM
    (simp -dsimp (disch := first | omega | (simp only [LR] <;> omega) | fail) only [push_cast, simprocAttr, -Nat.reduceSubDiff]) <;> (repeat (refine (aw_draw (by kernel_rfl)).2 ?_; simp -dsimp (disch := first | omega | (simp only [LR] <;> omega) | fail) only [push_cast, simprocAttr, -Nat.reduceSubDiff]))
  | true =>
    rw [if_neg (by rw [hv]; simp)] at hM
    have hP : s.P.length ≤ 10 := by
      unfold validSt at hv
      simp only [Bool.and_eq_true, decide_eq_true_eq] at hv
      exact hv.1.1.1.2
    (simp -dsimp (disch := first | omega | (simp only [LR] <;> omega) | fail) only [push_cast, simprocAttr, -Nat.reduceSubDiff]) <;> (repeat (refine (aw_draw (by kernel_rfl)).2 ?_; simp -dsimp (disch := first | omega | (simp only [LR] <;> omega) | fail) only [push_cast, simprocAttr, -Nat.reduceSubDiff]))
    refine callC (implNeeded0 s hs hP) ?_
    (simp -dsimp (disch := first | omega | (simp only [← hM, LR] <;> omega) | fail) only [push_cast, ← hM, simprocAttr, -Nat.reduceSubDiff]) <;> (repeat (refine (aw_draw (by kernel_rfl)).2 ?_; simp -dsimp (disch := first | omega | (simp only [← hM, LR] <;> omega) | fail) only [push_cast, ← hM, simprocAttr, -Nat.reduceSubDiff]))
end Go.Proofs.YtkkmgjhfjhcdmaaGreatDoor.Mx

/- Texts put into stores: the program. -/
namespace Go.Proofs.YtkkmgjhfjhcdmaaGreatDoor.Mx
set_option linter.all false
open Go Go.RowKit Go.Proofs
set_option linter.unusedSimpArgs false
theorem ins_rowsG {α : Type} (f : α → Row) (P : List α) (z : α) (i : Nat) (hi : i ≤ P.length) : ∃ x : α,
    List.take (i + 1) (P.map f ++ [f z]) ++ List.take (P.length - i) (seg (P.map f ++ [f z]) i (P.length + 1 - i)) ++
      List.drop (i + 1 + min (seg (P.map f ++ [f z]) i (P.length + 1 - i)).length (P.length - i)) (P.map f ++ [f z]) = (P.take i ++ x :: P.drop i).map f := by
  have e : P.map f ++ [f z] = (P ++ [z]).map f := by simp
  rw [e, seg_dr (P ++ [z]) f i (P.length + 1 - i) (by simp only [List.length_append, List.length_cons, List.length_nil]; omega)]
  obtain ⟨x, hx⟩ := ex_get (show i < (P ++ [z]).length by simp; omega)
  refine ⟨x, ?_⟩
  have t1 : (P ++ [z]).take (i + 1) = P.take i ++ [x] := by rw [take_step hx, List.take_append_of_le_length hi]
  have t2 : ((P ++ [z]).drop i).take (P.length - i) = P.drop i := by rw [List.drop_append_of_le_length hi, List.take_append_of_le_length (by rw [List.length_drop]; omega), List.take_of_length_le (by rw [List.length_drop]; omega)]
  have t3 : List.drop (i + 1 + min (((P ++ [z]).drop i).map f).length (P.length - i)) ((P ++ [z]).map f) = [] := List.drop_eq_nil_of_le (by simp only [List.length_map, List.length_append, List.length_drop, List.length_cons, List.length_nil]; omega)
  rw [← List.map_take, ← List.map_take, t1, t2, t3]
  simp
theorem flat_seg {r : List Row} (h : flatR r = true) (a n : Nat) : flatR (seg r a n) = true := by
  unfold flatR seg at *
  rw [List.all_eq_true] at *
  exact fun x hx => h x (List.mem_of_mem_drop (List.mem_of_mem_take hx))
theorem midG_get {α : Type} {a b : List α} {x : α} {i : Nat} (h : a.length = i) : (a ++ x :: b)[i]? = some x := by subst h; simp
theorem midG_set {α : Type} {a b : List α} {x y : α} {i : Nat} (h : a.length = i) : (a ++ x :: b).set i y = a ++ y :: b := by subst h; simp
def E13 : Env := { T := T0, kp := look [(0, [0, 1, 2]), (1, [1, 2, 3, 6]), (2, [6]), (3, [1, 2, 3, 6]), (4, [1, 2, 3, 6, 8]), (5, [1, 2, 3, 6, 8, 9]), (6, [1, 2, 3, 6, 8, 9, 10]), (7, [1, 2, 6, 8, 10]), (8, [6]), (9, [2, 6, 8, 10]), (10, [6, 8]), (11, [1, 2, 3, 6, 8, 9]), (12, [1, 2, 3, 6, 8, 9, 11]), (13, [1, 2, 3, 6, 8, 9, 11, 69, 70, 71]), (14, [1, 2, 3, 6, 8, 9, 11, 69, 70, 71]), (15, [1, 2, 3, 6, 8, 9, 11, 13, 69, 70, 71]), (16, [1, 2, 3, 6, 8, 9, 11, 69, 70, 71]), (17, [1, 2, 3, 6, 8, 9, 11]), (18, [1, 2, 3, 6, 8, 9, 11, 14]), (19, [1, 2, 3, 6, 8, 9, 11, 14, 79, 80, 81]), (20, [1, 2, 3, 6, 8, 9, 11, 14, 79, 80, 81]), (21, [1, 2, 3, 6, 8, 9, 11, 14, 16, 79, 80, 81]), (22, [1, 2, 3, 6, 8, 9, 11, 14, 79, 80, 81]), (23, [1, 2, 3, 6, 8, 9, 11, 14]), (24, [1, 2, 3, 6, 8, 9, 11, 14]), (25, [1, 2, 3, 6, 8, 9, 11, 14, 17]), (26, [1, 2, 3, 6, 8, 9, 11, 14, 17, 105, 106, 107]), (27, [1, 2, 3, 6, 8, 9, 11, 14, 17, 105, 106, 107]), (28, [1, 2, 3, 6, 8, 9, 11, 14, 17, 18, 19, 105, 106, 107]), (29, [1, 2, 3, 6, 8, 9, 11, 14, 18, 105, 106, 107]), (30, [1, 2, 3, 6, 8, 9, 11, 14, 17, 105, 106, 107]), (31, [1, 2, 3, 6, 8, 9, 11, 14, 17]), (32, [6]), (33, [1, 2, 3, 6, 8, 9, 11, 14, 17]), (34, [1, 2, 3, 6, 8, 9, 11, 14, 17]), (35, [1, 2, 3, 6, 8, 9]), (36, [1, 2, 3, 6, 8, 9, 20]), (37, [1, 2, 3, 6, 8, 9, 20]), (38, [1, 2, 6, 8, 20]), (39, [1, 2, 6, 8, 20]), (40, [1, 2, 6, 8, 20]), (41, [6, 8])], dp := look2 [(28, [[], [], [1], [], [3], [1, 2, 3, 4], [0, 1, 2, 3, 4, 5], [0, 1, 2, 3, 4, 5, 6], [0, 1, 2, 3, 4, 5, 6, 7], [0, 1, 2, 3, 4, 5, 6, 7, 8], [0, 1, 2, 3, 4, 5, 6, 7, 8, 9], [0, 1, 2, 3, 4, 5, 6, 7, 8, 9, 10], [0, 1, 2, 3, 4, 5, 6, 7, 8, 9, 10, 11], [0, 1, 2, 3, 4, 5, 6, 7, 8, 9, 10, 11, 12], [0, 1, 2, 3, 4, 5, 6, 7, 8, 9, 10, 11], [0, 1, 2, 3, 4, 5, 6, 7, 8, 9, 10, 11, 14], [0, 1, 2, 3, 4, 5, 6, 7, 8, 9, 10, 11], [0, 1, 2, 3, 4, 5, 6, 7, 8, 9, 10, 11, 14, 15, 16], [0, 1, 2, 3, 4, 5, 6, 7, 8, 9, 10, 11, 14, 15, 16, 17], [0, 1, 2, 3, 4, 5, 6, 7, 8, 9, 10, 11, 14, 15, 16, 17, 18], [0, 1, 2, 3, 4, 5, 6, 7, 8, 9, 10, 11, 12, 13, 14, 15, 16, 17, 18, 19], [0, 1, 2, 3, 4, 5, 6, 7, 8, 9, 10, 11, 12, 13, 14, 15, 16, 17, 18, 19, 20], [0, 1, 2, 3, 4, 5, 6, 7, 8, 9, 10, 11, 12, 13, 14, 15, 16, 17, 18, 19, 20, 21]]), (34, [[], [0], [], [0, 1, 2], [], [4], [], [6], [4, 5, 6, 7], [0, 1, 2, 3, 4, 5, 6, 7, 8], [0, 1, 2, 3, 4, 5, 6, 7, 8, 9], [0, 1, 2, 3, 4, 5, 6, 7, 8, 9, 10]]), (36, [[], [], [1], [1, 2], [0, 1, 2, 3], [0, 1, 2, 3, 4], [0, 1, 2, 3, 4, 5], [0, 1, 2, 3, 4, 5, 6], [0, 1, 2, 3, 4, 5], [0, 1, 2, 3, 4, 5, 6, 7, 8], [0, 1, 2, 3, 4, 5, 6, 7, 8, 9], [0, 1, 2, 3, 4, 5, 6, 7, 8, 9, 10], [0, 1, 2, 3, 4, 5], [0, 1, 2, 3, 4, 5, 12], [0, 1, 2, 3, 4, 5, 6, 7, 8, 9, 10, 11, 12, 13], [0, 1, 2, 3, 4, 5], [0, 1, 2, 3, 4, 5, 6, 7, 8, 9, 10, 11, 12, 13, 14, 15], [0, 1, 2, 3, 4, 5, 6, 7, 8, 9, 10, 11, 12, 13, 14, 15, 16]]), (39, [[], [0], [], [2], [0, 1, 2, 3], [], [5], [], [5, 6, 7], [0, 1, 2, 3, 4, 5, 6, 7, 8]])] }
attribute [local push_cast] E13
set_option maxRecDepth 20000 in
set_option maxHeartbeats 4000000 in
theorem implPut (s : Store) (t : Str) (now : Int) (hs : okStore s) (ht : t.size ≤ 2097152) : Does Tryz.prog 13 [.ag (storeC false s), .sc (.string t), .sc (.int .i64 now)] (.tu [.ag (storeC true (putF s t now).1), .sc (.int .i64 (putF s t now).2)], []) := by
  refine does_of (E := E13) (rs := [.cell 6 26, .tmp 7]) (lent := []) tOk rfl Tryz.func13 rfl (by decide) rfl rfl (Nat.le_of_ble_eq_true rfl) (Nat.le_of_ble_eq_true rfl) ?_
  obtain ⟨M, hM⟩ : ∃ M, M = putF s t now := ⟨_, rfl⟩
  rw [← hM]
  unfold putF at hM
  have hI := hs.1.1
  (simp -dsimp (disch := first | omega | (simp only [LR] <;> omega) | fail) only [push_cast, simprocAttr, -Nat.reduceSubDiff]) <;> (repeat (refine (aw_draw (by kernel_rfl)).2 ?_; simp -dsimp (disch := first | omega | (simp only [LR] <;> omega) | fail) only [push_cast, simprocAttr, -Nat.reduceSubDiff]))
  refine callC (implValidStore s hs) ?_
  cases hv : validSt s with
  | false =>
    rw [hv, Bool.false_and, Bool.false_and, if_pos rfl] at hM
    subst hM
    (simp -dsimp (disch := first | omega | (simp only [LR] <;> omega) | fail) only [push_cast, simprocAttr, -Nat.reduceSubDiff]) <;> (repeat (refine (aw_draw (by kernel_rfl)).2 ?_; simp -dsimp (disch := first | omega | (simp only [LR] <;> omega) | fail) only [push_cast, simprocAttr, -Nat.reduceSubDiff]))
    rfl
  | true =>
  by_cases z1 : t.size < 1
  · have hz : inB t.size 1 7000 = false := decide_eq_false (by omega)
    rw [hz, Bool.and_false, Bool.false_and, if_pos rfl] at hM
    subst hM
    (simp -dsimp (disch := first | omega | (simp only [LR] <;> omega) | fail) only [push_cast, simprocAttr, -Nat.reduceSubDiff]) <;> (repeat (refine (aw_draw (by kernel_rfl)).2 ?_; simp -dsimp (disch := first | omega | (simp only [LR] <;> omega) | fail) only [push_cast, simprocAttr, -Nat.reduceSubDiff]))
    rfl
  by_cases z2 : 7000 < t.size
  · have hz : inB t.size 1 7000 = false := decide_eq_false (by omega)
    rw [hz, Bool.and_false, Bool.false_and, if_pos rfl] at hM
    subst hM
    (simp -dsimp (disch := first | omega | (simp only [LR] <;> omega) | fail) only [push_cast, simprocAttr, -Nat.reduceSubDiff]) <;> (repeat (refine (aw_draw (by kernel_rfl)).2 ?_; simp -dsimp (disch := first | omega | (simp only [LR] <;> omega) | fail) only [push_cast, simprocAttr, -Nat.reduceSubDiff]))
    rfl
  have hz : inB t.size 1 7000 = true := decide_eq_true (by omega)
  (simp -dsimp (disch := first | omega | (simp only [LR] <;> omega) | fail) only [push_cast, simprocAttr, -Nat.reduceSubDiff]) <;> (repeat (refine (aw_draw (by kernel_rfl)).2 ?_; simp -dsimp (disch := first | omega | (simp only [LR] <;> omega) | fail) only [push_cast, simprocAttr, -Nat.reduceSubDiff]))
  refine callC (timeOk now) ?_
  cases hn : inB now 0 1000000 with
  | false =>
    rw [hn, Bool.and_false, if_pos rfl] at hM
    subst hM
    (simp -dsimp (disch := first | omega | (simp only [LR] <;> omega) | fail) only [push_cast, simprocAttr, -Nat.reduceSubDiff]) <;> (repeat (refine (aw_draw (by kernel_rfl)).2 ?_; simp -dsimp (disch := first | omega | (simp only [LR] <;> omega) | fail) only [push_cast, simprocAttr, -Nat.reduceSubDiff]))
    rfl
  | true =>
  rw [if_neg (by rw [hv, hz, hn]; simp)] at hM
  have hP := valid_P hv
  (simp -dsimp (disch := first | omega | (simp only [LR] <;> omega) | fail) only [push_cast, simprocAttr, -Nat.reduceSubDiff]) <;> (repeat (refine (aw_draw (by kernel_rfl)).2 ?_; simp -dsimp (disch := first | omega | (simp only [LR] <;> omega) | fail) only [push_cast, simprocAttr, -Nat.reduceSubDiff]))
  refine callC (copyStore s hs) ?_
  (simp -dsimp (disch := first | omega | (simp only [LR] <;> omega) | fail) only [push_cast, simprocAttr, -Nat.reduceSubDiff]) <;> (repeat (refine (aw_draw (by kernel_rfl)).2 ?_; simp -dsimp (disch := first | omega | (simp only [LR] <;> omega) | fail) only [push_cast, simprocAttr, -Nat.reduceSubDiff]))
  refine callC (implSum t s.w (by omega)) ?_
  obtain ⟨u, hu⟩ : ∃ u, u = sumS t s.w := ⟨_, rfl⟩
  rw [← hu] at hM ⊢
  (simp -dsimp (disch := first | omega | (simp only [LR] <;> omega) | fail) only [push_cast, simprocAttr, -Nat.reduceSubDiff]) <;> (repeat (refine (aw_draw (by kernel_rfl)).2 ?_; simp -dsimp (disch := first | omega | (simp only [LR] <;> omega) | fail) only [push_cast, simprocAttr, -Nat.reduceSubDiff]))
  refine callC (find s u hs) ?_
  by_cases hat : 0 ≤ atI s.w u s.I
  · rw [if_pos hat] at hM
    obtain ⟨i, x, h1, h2, _⟩ := at_get hat
    have hil := (List.getElem?_eq_some_iff.1 h2).1
    rw [textAt_some h1 h2, h1, Int.toNat_natCast] at hM
    rw [h1]
    by_cases he : x.t = t
    · rw [if_pos he] at hM
      subst hM
      (simp -dsimp (disch := first | omega | (simp only [h2, he, set_item, LR] <;> omega) | fail) only [push_cast, h2, he, set_item, simprocAttr, -Nat.reduceSubDiff]) <;> (repeat (refine (aw_draw (by kernel_rfl)).2 ?_; simp -dsimp (disch := first | omega | (simp only [h2, he, set_item, LR] <;> omega) | fail) only [push_cast, h2, he, set_item, simprocAttr, -Nat.reduceSubDiff]))
    · rw [if_neg he] at hM
      subst hM
      (simp -dsimp (disch := first | omega | (simp only [h2, he, LR] <;> omega) | fail) only [push_cast, h2, he, simprocAttr, -Nat.reduceSubDiff]) <;> (repeat (refine (aw_draw (by kernel_rfl)).2 ?_; simp -dsimp (disch := first | omega | (simp only [h2, he, LR] <;> omega) | fail) only [push_cast, h2, he, simprocAttr, -Nat.reduceSubDiff]))
      rfl
  rw [if_neg hat] at hM
  (simp -dsimp (disch := first | omega | (simp only [hat, LR] <;> omega) | fail) only [push_cast, hat, simprocAttr, -Nat.reduceSubDiff]) <;> (repeat (refine (aw_draw (by kernel_rfl)).2 ?_; simp -dsimp (disch := first | omega | (simp only [hat, LR] <;> omega) | fail) only [push_cast, hat, simprocAttr, -Nat.reduceSubDiff]))
  refine callC (implNeeded0 s hs hP) ?_
  have hNl := needL_len hP
  rw [show (nmsL s).foldl addS [] = needL s from rfl]
  generalize needL s = N at hM hNl ⊢
  (simp -dsimp (disch := first | omega | (simp only [LR] <;> omega) | fail) only [push_cast, simprocAttr, -Nat.reduceSubDiff]) <;> (repeat (refine (aw_draw (by kernel_rfl)).2 ?_; simp -dsimp (disch := first | omega | (simp only [LR] <;> omega) | fail) only [push_cast, simprocAttr, -Nat.reduceSubDiff]))
  refine loop_ind (α := Nat) (fun i => i ≤ N.length)
    (fun i => ⟨[(1, .sc (.string t)), (2, .sc (.int .i64 now)), (3, .pt 1 0 0), (6, .pt 2 0 0), (8, .pt 5 0 0), (9, .sc (.string u)), (11, .mv 8), (69, .ow 9 0 N.length), (70, .sc (.int .i64 N.length)), (71, .sc (.int .i64 i))],
      [(1, .bx (storeC false s)), (2, .bx [.sc (.int .i64 0), .sc (.int .i64 0), .ow 3 0 0, .ow 4 0 0]), (3, .ar 2 0 []), (4, .ar 1 0 []), (5, .bx [.sc (.int .i64 s.w), .sc (.int .i64 s.r), .ow 6 0 s.I.length, .ow 7 0 s.P.length]), (6, .ar 2 0 (s.I.map (itemC true))), (7, .ar 1 0 (s.P.map strR)), (8, .mp 0 (mset (N.take i))), (9, .ar 1 0 (N.map strR))], 10⟩) (fun i => N.length - i) 0 (Nat.zero_le _) ?_ ?_
  · simp -dsimp (disch := first | omega | (simp only [mset, List.take_zero, List.foldl_nil, LR] <;> omega) | fail) only [push_cast, mset, List.take_zero, List.foldl_nil, simprocAttr, -Nat.reduceSubDiff]
  intro i hi ih
  by_cases h : i < N.length
  · obtain ⟨x, hx⟩ := ex_get h
    have hk := mok_kok (mset_mok (N.take i))
    have hst := mset_step hx
    generalize mset (N.take i) = E at *
    (simp -dsimp (disch := first | omega | (simp only [h, hx, pMapSet, hk.1, kkey, LR] <;> omega) | fail) only [push_cast, h, hx, pMapSet, hk.1, kkey, simprocAttr, -Nat.reduceSubDiff]) <;> (repeat (refine (aw_draw (by kernel_rfl)).2 ?_; simp -dsimp (disch := first | omega | (simp only [h, hx, pMapSet, hk.1, kkey, LR] <;> omega) | fail) only [push_cast, h, hx, pMapSet, hk.1, kkey, simprocAttr, -Nat.reduceSubDiff]))
    refine ih (i + 1) _ (by omega) h ?_
    rw [hst]
    simp -dsimp (disch := first | omega | (simp only [wr_id, LR] <;> omega) | fail) only [push_cast, wr_id, simprocAttr, -Nat.reduceSubDiff]
  rw [show N.take i = N from List.take_of_length_le (by omega)]
  clear ih
  (simp -dsimp (disch := first | omega | (simp only [h, LR] <;> omega) | fail) only [push_cast, h, simprocAttr, -Nat.reduceSubDiff]) <;> (repeat (refine (aw_draw (by kernel_rfl)).2 ?_; simp -dsimp (disch := first | omega | (simp only [h, LR] <;> omega) | fail) only [push_cast, h, simprocAttr, -Nat.reduceSubDiff]))
  refine loop_ind (α := Nat) (fun i => i ≤ s.I.length)
    (fun i => ⟨[(1, .sc (.string t)), (2, .sc (.int .i64 now)), (3, .pt 1 0 0), (6, .pt 2 0 0), (8, .pt 5 0 0), (9, .sc (.string u)), (11, .mv 8), (14, .sc (.int .i64 (bytes (s.I.take i)))), (79, .ow 6 0 s.I.length), (80, .sc (.int .i64 s.I.length)), (81, .sc (.int .i64 i))],
      [(1, .bx (storeC false s)), (2, .bx [.sc (.int .i64 0), .sc (.int .i64 0), .ow 3 0 0, .ow 4 0 0]), (3, .ar 2 0 []), (4, .ar 1 0 []), (5, .bx [.sc (.int .i64 s.w), .sc (.int .i64 s.r), .ow 6 0 s.I.length, .ow 7 0 s.P.length]), (6, .ar 2 0 (s.I.map (itemC true))), (7, .ar 1 0 (s.P.map strR)), (8, .mp 0 (mset N))], 9⟩) (fun i => s.I.length - i) 0 (Nat.zero_le _) ?_ ?_
  · simp -dsimp (disch := first | omega | (simp only [List.take_zero, bytes, LR] <;> omega) | fail) only [push_cast, List.take_zero, bytes, simprocAttr, -Nat.reduceSubDiff]
  intro i2 hi2 ih
  by_cases h2 : i2 < s.I.length
  · obtain ⟨x, hx⟩ := ex_get h2
    have hbt := bytes_le hs.1
    have b1 := bytes_app (s.I.take (i2 + 1)) (s.I.drop (i2 + 1))
    have b2 := bytes_app (s.I.take i2) [x]
    rw [← take_step hx, bytes, bytes] at b2
    rw [List.take_append_drop] at b1
    have b3 := bytes_nn (s.I.drop (i2 + 1))
    have b4 := bytes_nn (s.I.take i2)
    (simp -dsimp (disch := first | omega | (simp only [h2, hx, wr_id, LR] <;> omega) | fail) only [push_cast, h2, hx, wr_id, simprocAttr, -Nat.reduceSubDiff]) <;> (repeat (refine (aw_draw (by kernel_rfl)).2 ?_; simp -dsimp (disch := first | omega | (simp only [h2, hx, wr_id, LR] <;> omega) | fail) only [push_cast, h2, hx, wr_id, simprocAttr, -Nat.reduceSubDiff]))
    refine ih (i2 + 1) _ (by omega) h2 ?_
    rw [b2]
    simp -dsimp (disch := first | omega | (simp only [wr_id, Int.add_zero, LR] <;> omega) | fail) only [push_cast, wr_id, Int.add_zero, simprocAttr, -Nat.reduceSubDiff]
  rw [show s.I.take i2 = s.I from List.take_of_length_le (by omega)]
  clear ih
  (simp -dsimp (disch := first | omega | (simp only [h2, LR] <;> omega) | fail) only [push_cast, h2, simprocAttr, -Nat.reduceSubDiff]) <;> (repeat (refine (aw_draw (by kernel_rfl)).2 ?_; simp -dsimp (disch := first | omega | (simp only [h2, LR] <;> omega) | fail) only [push_cast, h2, simprocAttr, -Nat.reduceSubDiff]))
  obtain ⟨E, hE⟩ : ∃ E, E = evF s.w s.r N t.size s.I := ⟨_, rfl⟩
  rw [← hE] at hM
  have hk := mok_kok (mset_mok N)
  have hk2 := hk.2
  simp only [plain] at hk2
  refine loop_ind (α := List Item) (fun J => okL okItem J ∧ evF s.w s.r N t.size J = E)
    (fun J => ⟨[(1, .sc (.string t)), (2, .sc (.int .i64 now)), (3, .pt 1 0 0), (6, .pt 2 0 0), (8, .pt 5 0 0), (9, .sc (.string u)), (11, .mv 8), (14, .sc (.int .i64 (bytes J)))],
      [(1, .bx (storeC false s)), (2, .bx [.sc (.int .i64 0), .sc (.int .i64 0), .ow 3 0 0, .ow 4 0 0]), (3, .ar 2 0 []), (4, .ar 1 0 []), (5, .bx [.sc (.int .i64 s.w), .sc (.int .i64 s.r), .ow 6 0 J.length, .ow 7 0 s.P.length]), (6, .ar 2 0 (J.map (itemC true))), (7, .ar 1 0 (s.P.map strR)), (8, .mp 0 (mset N))], 9⟩) (fun J => J.length) s.I ⟨hs.1, hE.symm⟩ ?_ ?_
  · simp -dsimp (disch := first | omega | (simp only [LR] <;> omega) | fail) only [push_cast, simprocAttr, -Nat.reduceSubDiff]
  rintro J ⟨hJ, hEJ⟩ ih
  have hJl := hJ.1
  have hb := bytes_le hJ
  have hb0 := bytes_nn J
  rw [evF] at hEJ
  by_cases hc : s.r < bytes J + t.size ∨ 1000 ≤ J.length
  · rw [if_pos hc] at hEJ
    have two : (s.r < bytes J + t.size ∧ s.r < bytes J + t.size) ∨ (¬ s.r < bytes J + t.size ∧ 1000 ≤ J.length) := by omega
    rcases two with ⟨h1, h2⟩ | ⟨h1, h2⟩
    all_goals
      (simp -dsimp (disch := first | omega | (simp only [wr_id, LR] <;> omega) | fail) only [push_cast, wr_id, simprocAttr, -Nat.reduceSubDiff]) <;> (repeat (refine (aw_draw (by kernel_rfl)).2 ?_; simp -dsimp (disch := first | omega | (simp only [wr_id, LR] <;> omega) | fail) only [push_cast, wr_id, simprocAttr, -Nat.reduceSubDiff]))
      refine loop_ind (α := Nat) (fun i => i ≤ J.length)
        (fun i => ⟨[(1, .sc (.string t)), (2, .sc (.int .i64 now)), (3, .pt 1 0 0), (6, .pt 2 0 0), (8, .pt 5 0 0), (9, .sc (.string u)), (11, .mv 8), (14, .sc (.int .i64 (bytes J))), (17, .sc (.int .i64 (bestF s.w N J i))), (105, .ow 6 0 J.length), (106, .sc (.int .i64 J.length)), (107, .sc (.int .i64 i))],
          [(1, .bx (storeC false s)), (2, .bx [.sc (.int .i64 0), .sc (.int .i64 0), .ow 3 0 0, .ow 4 0 0]), (3, .ar 2 0 []), (4, .ar 1 0 []), (5, .bx [.sc (.int .i64 s.w), .sc (.int .i64 s.r), .ow 6 0 J.length, .ow 7 0 s.P.length]), (6, .ar 2 0 (J.map (itemC true))), (7, .ar 1 0 (s.P.map strR)), (8, .mp 0 (mset N))], 9⟩) (fun i => J.length - i) 0 (Nat.zero_le _) ?_ ?_
      · simp -dsimp (disch := first | omega | (simp only [bestF, LR] <;> omega) | fail) only [push_cast, bestF, simprocAttr, -Nat.reduceSubDiff]
      intro i hi ih2
      by_cases h : i < J.length
      · obtain ⟨x, hx⟩ := ex_get h
        have hxt : x.t.size ≤ 2097152 := hJ.2 x (List.mem_of_getElem? hx)
        have hst : bestF s.w N J (i + 1) = if inL N (sumS x.t s.w) = false ∧ (bestF s.w N J i < 0 ∨ x.u < usedAt J (bestF s.w N J i)) then (i : Int) else bestF s.w N J i := by rw [bestF, hx]
        have hr := best_rng s.w N J i
        obtain ⟨B, hB⟩ : ∃ B, B = bestF s.w N J i := ⟨_, rfl⟩
        rw [← hB] at hst hr ⊢
        (simp -dsimp (disch := first | omega | (simp only [h, hx, LR] <;> omega) | fail) only [push_cast, h, hx, simprocAttr, -Nat.reduceSubDiff]) <;> (repeat (refine (aw_draw (by kernel_rfl)).2 ?_; simp -dsimp (disch := first | omega | (simp only [h, hx, LR] <;> omega) | fail) only [push_cast, h, hx, simprocAttr, -Nat.reduceSubDiff]))
        refine callC (implSum x.t s.w (by omega)) ?_
        cases hin : inL N (sumS x.t s.w) with
        | true =>
          rw [if_neg (by rw [hin]; simp)] at hst
          (simp -dsimp (disch := first | omega | (simp only [h, hx, pLookup, entries, hk.1, hk2, kkey, mset_get, hin, LR] <;> omega) | fail) only [push_cast, h, hx, pLookup, entries, hk.1, hk2, kkey, mset_get, hin, simprocAttr, -Nat.reduceSubDiff]) <;> (repeat (refine (aw_draw (by kernel_rfl)).2 ?_; simp -dsimp (disch := first | omega | (simp only [h, hx, pLookup, entries, hk.1, hk2, kkey, mset_get, hin, LR] <;> omega) | fail) only [push_cast, h, hx, pLookup, entries, hk.1, hk2, kkey, mset_get, hin, simprocAttr, -Nat.reduceSubDiff]))
          refine ih2 (i + 1) _ (by omega) h ?_
          rw [hst]
          simp -dsimp (disch := first | omega | (simp only [wr_id, LR] <;> omega) | fail) only [push_cast, wr_id, simprocAttr, -Nat.reduceSubDiff]
        | false =>
        by_cases hB0 : B < 0
        · rw [if_pos ⟨hin, .inl hB0⟩] at hst
          (simp -dsimp (disch := first | omega | (simp only [h, hx, pLookup, entries, hk.1, hk2, kkey, mset_get, hin, hB0, LR] <;> omega) | fail) only [push_cast, h, hx, pLookup, entries, hk.1, hk2, kkey, mset_get, hin, hB0, simprocAttr, -Nat.reduceSubDiff]) <;> (repeat (refine (aw_draw (by kernel_rfl)).2 ?_; simp -dsimp (disch := first | omega | (simp only [h, hx, pLookup, entries, hk.1, hk2, kkey, mset_get, hin, hB0, LR] <;> omega) | fail) only [push_cast, h, hx, pLookup, entries, hk.1, hk2, kkey, mset_get, hin, hB0, simprocAttr, -Nat.reduceSubDiff]))
          refine ih2 (i + 1) _ (by omega) h ?_
          rw [hst]
          simp -dsimp (disch := first | omega | (simp only [wr_id, LR] <;> omega) | fail) only [push_cast, wr_id, simprocAttr, -Nat.reduceSubDiff]
        obtain ⟨k, hk0⟩ : ∃ k : Nat, B = k := ⟨B.toNat, by omega⟩
        rw [hk0] at hst hB0 hr ⊢
        obtain ⟨y, hy⟩ := ex_get (show k < J.length by omega)
        have hua : usedAt J (k : Int) = y.u := by unfold usedAt; rw [Int.toNat_natCast, hy]
        rw [hua] at hst
        by_cases hlt : x.u < y.u
        · rw [if_pos ⟨hin, .inr hlt⟩] at hst
          (simp -dsimp (disch := first | omega | (simp only [h, hx, hy, pLookup, entries, hk.1, hk2, kkey, mset_get, hin, hB0, hlt, LR] <;> omega) | fail) only [push_cast, h, hx, hy, pLookup, entries, hk.1, hk2, kkey, mset_get, hin, hB0, hlt, simprocAttr, -Nat.reduceSubDiff]) <;> (repeat (refine (aw_draw (by kernel_rfl)).2 ?_; simp -dsimp (disch := first | omega | (simp only [h, hx, hy, pLookup, entries, hk.1, hk2, kkey, mset_get, hin, hB0, hlt, LR] <;> omega) | fail) only [push_cast, h, hx, hy, pLookup, entries, hk.1, hk2, kkey, mset_get, hin, hB0, hlt, simprocAttr, -Nat.reduceSubDiff]))
          refine ih2 (i + 1) _ (by omega) h ?_
          rw [hst]
          simp -dsimp (disch := first | omega | (simp only [wr_id, LR] <;> omega) | fail) only [push_cast, wr_id, simprocAttr, -Nat.reduceSubDiff]
        · rw [if_neg (by rintro ⟨_, q | q⟩; exact hB0 q; exact hlt q)] at hst
          (simp -dsimp (disch := first | omega | (simp only [h, hx, hy, pLookup, entries, hk.1, hk2, kkey, mset_get, hin, hB0, hlt, LR] <;> omega) | fail) only [push_cast, h, hx, hy, pLookup, entries, hk.1, hk2, kkey, mset_get, hin, hB0, hlt, simprocAttr, -Nat.reduceSubDiff]) <;> (repeat (refine (aw_draw (by kernel_rfl)).2 ?_; simp -dsimp (disch := first | omega | (simp only [h, hx, hy, pLookup, entries, hk.1, hk2, kkey, mset_get, hin, hB0, hlt, LR] <;> omega) | fail) only [push_cast, h, hx, hy, pLookup, entries, hk.1, hk2, kkey, mset_get, hin, hB0, hlt, simprocAttr, -Nat.reduceSubDiff]))
          refine ih2 (i + 1) _ (by omega) h ?_
          rw [hst]
          simp -dsimp (disch := first | omega | (simp only [wr_id, LR] <;> omega) | fail) only [push_cast, wr_id, simprocAttr, -Nat.reduceSubDiff]
      have hi : i = J.length := by omega
      subst hi
      clear ih2
      have hr := best_rng s.w N J J.length
      obtain ⟨B, hB⟩ : ∃ B, B = bestF s.w N J J.length := ⟨_, rfl⟩
      rw [← hB] at hEJ hr ⊢
      by_cases hB0 : B < 0
      · rw [if_neg (by omega)] at hEJ
        rw [← hEJ] at hM
        subst hM
        (simp -dsimp (disch := first | omega | (simp only [hB0, LR] <;> omega) | fail) only [push_cast, hB0, simprocAttr, -Nat.reduceSubDiff]) <;> (repeat (refine (aw_draw (by kernel_rfl)).2 ?_; simp -dsimp (disch := first | omega | (simp only [hB0, LR] <;> omega) | fail) only [push_cast, hB0, simprocAttr, -Nat.reduceSubDiff]))
        rfl
      · rw [if_pos (by omega)] at hEJ
        obtain ⟨k, hk0⟩ : ∃ k : Nat, B = k := ⟨B.toNat, by omega⟩
        rw [hk0, Int.toNat_natCast] at hEJ
        rw [hk0] at hB0 hr ⊢
        obtain ⟨y, hy⟩ := ex_get (show k < J.length by omega)
        have hyt : y.t.size ≤ 2097152 := hJ.2 y (List.mem_of_getElem? hy)
        have hrl := rmAt_len (l := J) (i := k) (by omega)
        have hrb := bytes_rm hy
        have hrb0 := bytes_nn (rmAt J k)
        have e0 : bytes J - y.t.size = bytes (rmAt J k) := by omega
        have e1 : ((k : Int) + 1).toNat = k + 1 := by omega
        have e2 : k + (J.drop (k + 1)).length = (rmAt J k).length := by rw [List.length_drop]; omega
        have e3 : (J.map (itemC true)).length = J.length := List.length_map _
        have e4 : (J.take k).map (itemC true) ++ (J.drop (k + 1)).map (itemC true) = (rmAt J k).map (itemC true) := by unfold rmAt; rw [List.map_append]
        (simp -dsimp (disch := first | omega | (simp only [hB0, hy, e0, e1, seg_tk, seg_dr, wr_id, LR] <;> omega) | fail) only [push_cast, hB0, hy, e0, e1, seg_tk, seg_dr, wr_id, simprocAttr, -Nat.reduceSubDiff]) <;> (repeat (refine (aw_draw (by kernel_rfl)).2 ?_; simp -dsimp (disch := first | omega | (simp only [hB0, hy, e0, e1, seg_tk, seg_dr, wr_id, LR] <;> omega) | fail) only [push_cast, hB0, hy, e0, e1, seg_tk, seg_dr, wr_id, simprocAttr, -Nat.reduceSubDiff]))
        refine ih (rmAt J k) _ (by omega) ⟨⟨by omega, fun a ha => hJ.2 a (by unfold rmAt at ha; rcases List.mem_append.1 ha with q | q; exact List.mem_of_mem_take q; exact List.mem_of_mem_drop q)⟩, hEJ⟩ ?_
        simp -dsimp (disch := first | omega | (simp only [wr_id, e0, e1, e2, e4, LR] <;> omega) | fail) only [push_cast, wr_id, e0, e1, e2, e4, simprocAttr, -Nat.reduceSubDiff]
  · rw [if_neg hc] at hEJ
    rw [← hEJ] at hM
    simp only at hM
    have h1 : ¬ s.r < bytes J + t.size := by omega
    have h2 : ¬ 1000 ≤ J.length := by omega
    clear ih hEJ hE
    (simp -dsimp (disch := first | omega | (simp only [wr_id, LR] <;> omega) | fail) only [push_cast, wr_id, simprocAttr, -Nat.reduceSubDiff]) <;> (repeat (refine (aw_draw (by kernel_rfl)).2 ?_; simp -dsimp (disch := first | omega | (simp only [wr_id, LR] <;> omega) | fail) only [push_cast, wr_id, simprocAttr, -Nat.reduceSubDiff]))
    have hkr := rk_le (sumsI s.w J) u
    have hsl : (sumsI s.w J).length = J.length := by unfold sumsI; rw [List.length_map]
    refine loop_ind (α := Nat) (fun k => k ≤ rk (sumsI s.w J) u)
      (fun k => ⟨[(1, .sc (.string t)), (2, .sc (.int .i64 now)), (3, .pt 1 0 0), (6, .pt 2 0 0), (8, .pt 5 0 0), (9, .sc (.string u)), (20, .sc (.int .i64 k))],
        [(1, .bx (storeC false s)), (2, .bx [.sc (.int .i64 0), .sc (.int .i64 0), .ow 3 0 0, .ow 4 0 0]), (3, .ar 2 0 []), (4, .ar 1 0 []), (5, .bx [.sc (.int .i64 s.w), .sc (.int .i64 s.r), .ow 6 0 J.length, .ow 7 0 s.P.length]), (6, .ar 2 0 (J.map (itemC true))), (7, .ar 1 0 (s.P.map strR))], 8⟩) (fun k => J.length - k) 0 (Nat.zero_le _) ?_ ?_
    · simp -dsimp (disch := first | omega | (simp only [LR] <;> omega) | fail) only [push_cast, simprocAttr, -Nat.reduceSubDiff]
    intro k hkk0 ih
    have last : k = rk (sumsI s.w J) u → k ≤ J.length ∧ M = ({ s with I := insAt J k ⟨t, now⟩ }, 0) := fun q => ⟨by omega, by rw [hM, ← q]⟩
    obtain ⟨z, hins⟩ : ∃ z : Item, k ≤ J.length → List.take (k + 1) (J.map (itemC true) ++ [itemC true ⟨⟨#[]⟩, 0⟩]) ++ List.take (J.length - k) (seg (J.map (itemC true) ++ [itemC true ⟨⟨#[]⟩, 0⟩]) k (J.length + 1 - k)) ++
      List.drop (k + 1 + min (seg (J.map (itemC true) ++ [itemC true ⟨⟨#[]⟩, 0⟩]) k (J.length + 1 - k)).length (J.length - k)) (J.map (itemC true) ++ [itemC true ⟨⟨#[]⟩, 0⟩]) = (J.take k ++ z :: J.drop k).map (itemC true) := by
      by_cases q : k ≤ J.length
      · obtain ⟨z, hz⟩ := ins_rowsG (itemC true) J ⟨⟨#[]⟩, 0⟩ k q
        exact ⟨z, fun _ => hz⟩
      · exact ⟨⟨em, 0⟩, fun q2 => (q q2).elim⟩
    have e1 : ((k : Int) + 1).toNat = k + 1 := by omega
    have e2 : ((J.length : Int) + 1 - ((k : Int) + 1)).toNat = J.length - k := by omega
    have e3 : ((J.length : Int) + 1 - (k : Int)).toNat = J.length + 1 - k := by omega
    have hfl : flatR (seg (J.map (itemC true) ++ [itemC true ⟨⟨#[]⟩, 0⟩]) k (J.length + 1 - k)) = true := flat_seg (by rw [flatR_app, flat_Item]; rfl) _ _
    have hg := fun q : k ≤ J.length => midG_get (a := J.take k) (b := J.drop k) (x := z) (i := k) (by simp; omega)
    have hset := fun q : k ≤ J.length => set_item (J.take k ++ z :: J.drop k) k t now
    have hms := fun q : k ≤ J.length => midG_set (a := J.take k) (b := J.drop k) (x := z) (y := (⟨t, now⟩ : Item)) (i := k) (by simp; omega)
    simp only [itemC] at hfl
    by_cases h : k < J.length
    · obtain ⟨x, hx⟩ := ex_get h
      have hxt : x.t.size ≤ 2097152 := hJ.2 x (List.mem_of_getElem? hx)
      have hxs : (sumsI s.w J)[k]? = some (sumS x.t s.w) := by unfold sumsI; rw [List.getElem?_map, hx]; rfl
      (simp -dsimp (disch := first | omega | (simp only [h, hx, LR] <;> omega) | fail) only [push_cast, h, hx, simprocAttr, -Nat.reduceSubDiff]) <;> (repeat (refine (aw_draw (by kernel_rfl)).2 ?_; simp -dsimp (disch := first | omega | (simp only [h, hx, LR] <;> omega) | fail) only [push_cast, h, hx, simprocAttr, -Nat.reduceSubDiff]))
      refine callC (implSum x.t s.w (by omega)) ?_
      cases e : lts (sumS x.t s.w) u with
      | true =>
        have := rk_step hkk0 hxs e
        (simp -dsimp (disch := first | omega | (simp only [h, hx, e, LR] <;> omega) | fail) only [push_cast, h, hx, e, simprocAttr, -Nat.reduceSubDiff]) <;> (repeat (refine (aw_draw (by kernel_rfl)).2 ?_; simp -dsimp (disch := first | omega | (simp only [h, hx, e, LR] <;> omega) | fail) only [push_cast, h, hx, e, simprocAttr, -Nat.reduceSubDiff]))
        refine ih (k + 1) _ (by omega) this ?_
        simp -dsimp (disch := first | omega | (simp only [wr_id, LR] <;> omega) | fail) only [push_cast, wr_id, simprocAttr, -Nat.reduceSubDiff]
      | false =>
        have hkk : k = rk (sumsI s.w J) u := by
          rcases Nat.lt_or_eq_of_le hkk0 with q | q
          · obtain ⟨y, hy, hy2⟩ := rk_all q
            rw [hxs] at hy; cases hy; rw [e] at hy2; cases hy2
          · exact q
        obtain ⟨hkl, hM⟩ := last hkk
        have hins := hins hkl
        have hg := hg hkl
        have hset := hset hkl
        rw [hms hkl] at hset
        simp only [itemC] at hins
        subst hM
        (simp -dsimp (disch := first | omega | (simp only [h, hx, e, wr_id, e1, e2, e3, hins, hg, hfl, LR] <;> omega) | fail) only [push_cast, h, hx, e, wr_id, e1, e2, e3, hins, hg, hfl, simprocAttr, -Nat.reduceSubDiff]) <;> (repeat (refine (aw_draw (by kernel_rfl)).2 ?_; simp -dsimp (disch := first | omega | (simp only [h, hx, e, wr_id, e1, e2, e3, hins, hg, hfl, LR] <;> omega) | fail) only [push_cast, h, hx, e, wr_id, e1, e2, e3, hins, hg, hfl, simprocAttr, -Nat.reduceSubDiff]))
        rw [hset]
        rfl
    · have hkk : k = rk (sumsI s.w J) u := by omega
      obtain ⟨hkl, hM⟩ := last hkk
      have hins := hins hkl
      have hg := hg hkl
      have hset := hset hkl
      rw [hms hkl] at hset
      simp only [itemC] at hins
      subst hM
      (simp -dsimp (disch := first | omega | (simp only [h, wr_id, e1, e2, e3, hins, hg, hfl, LR] <;> omega) | fail) only [push_cast, h, wr_id, e1, e2, e3, hins, hg, hfl, simprocAttr, -Nat.reduceSubDiff]) <;> (repeat (refine (aw_draw (by kernel_rfl)).2 ?_; simp -dsimp (disch := first | omega | (simp only [h, wr_id, e1, e2, e3, hins, hg, hfl, LR] <;> omega) | fail) only [push_cast, h, wr_id, e1, e2, e3, hins, hg, hfl, simprocAttr, -Nat.reduceSubDiff]))
      rw [hset]
      rfl
end Go.Proofs.YtkkmgjhfjhcdmaaGreatDoor.Mx

/- Things saved in stores. -/
namespace Go.Proofs.YtkkmgjhfjhcdmaaGreatDoor.Mx
set_option linter.all false
open Go Go.RowKit Go.Proofs
set_option linter.unusedSimpArgs false
def E16 : Env := { T := T0, kp := look [(0, [0, 1, 2]), (1, [1, 2, 3, 6]), (2, [6]), (3, [1, 2, 3, 6]), (4, [1, 2, 3, 6, 8, 9]), (5, [6, 9]), (6, [1, 2, 3, 6, 8]), (7, [2, 6, 8, 10]), (8, [2, 6, 8, 10, 11]), (9, [2, 6, 8, 10, 11]), (10, [2, 6, 8, 10, 11]), (11, [2, 6, 8, 9, 10, 11]), (12, [6, 9]), (13, [6, 8])], dp := look2 [(3, [[], [], [], [2], [1, 2, 3], [0, 1, 2, 3, 4], [0, 1, 2, 3, 4, 5], [0, 1, 2, 3, 4, 5, 6], [0, 1, 2, 3, 4, 5, 6], [], [0, 1, 2, 3, 4, 5, 6, 7, 9], [0, 1, 2, 3, 4, 5, 6, 7, 8, 9, 10]]), (6, [[], [], [1], [0, 1, 2], [], [4], [0, 1, 2, 3, 4, 5], [0, 1, 2, 3, 4, 5, 6], [], [0, 1, 2, 3, 4, 5, 6, 8], [0, 1, 2, 3, 4, 5, 6, 7, 8, 9], [0, 1, 2, 3, 4, 5, 6, 7, 8, 9, 10]]), (10, [[], [], [], [1, 2], [1, 2, 3], [], [0, 1, 2, 3, 4, 5], [0, 1, 2, 3, 4, 5, 6], [0, 1, 2, 3, 4, 5, 6, 7], [0, 1, 2, 3, 4, 5, 6, 7], [0, 1, 2, 3, 4, 5, 6, 7, 8], [0, 1, 2, 3, 4, 5, 6, 7, 8, 9, 10]])] }
attribute [local push_cast] E16
set_option maxRecDepth 20000 in
set_option maxHeartbeats 2000000 in
theorem specSave (s : Store) (t : Str) (now : Int) (hs : okStore s) (ht : t.size ≤ 2097152) : Does Tryz.prog 16 [.ag (storeC false s), .sc (.string t), .sc (.int .i64 now)] (.tu [.ag (storeC true (saveF s t now).1), .sc (.int .i64 (saveF s t now).2)], []) := by
  refine does_of (E := E16) (rs := [.cell 6 26, .tmp 7]) (lent := []) tOk rfl Tryz.func16 rfl (by decide) rfl rfl (Nat.le_of_ble_eq_true rfl) (Nat.le_of_ble_eq_true rfl) ?_
  obtain ⟨M, hM⟩ : ∃ M, M = saveF s t now := ⟨_, rfl⟩
  rw [← hM]
  unfold saveF at hM
  (simp -dsimp (disch := first | omega | (simp only [LR] <;> omega) | fail) only [push_cast, simprocAttr, -Nat.reduceSubDiff]) <;> (repeat (refine (aw_draw (by kernel_rfl)).2 ?_; simp -dsimp (disch := first | omega | (simp only [LR] <;> omega) | fail) only [push_cast, simprocAttr, -Nat.reduceSubDiff]))
  refine callC (specValidStore s hs) ?_
  cases hv : validSt s with
  | false =>
    rw [hv, Bool.false_and, Bool.false_and, if_pos rfl] at hM
    subst hM
    (simp -dsimp (disch := first | omega | (simp only [LR] <;> omega) | fail) only [push_cast, simprocAttr, -Nat.reduceSubDiff]) <;> (repeat (refine (aw_draw (by kernel_rfl)).2 ?_; simp -dsimp (disch := first | omega | (simp only [LR] <;> omega) | fail) only [push_cast, simprocAttr, -Nat.reduceSubDiff]))
    rfl
  | true =>
  by_cases hbig : 3000 < t.size
  · rw [show decide (t.size ≤ 3000) = false from decide_eq_false (by omega), Bool.and_false, Bool.false_and, if_pos rfl] at hM
    subst hM
    (simp -dsimp (disch := first | omega | (simp only [LR] <;> omega) | fail) only [push_cast, simprocAttr, -Nat.reduceSubDiff]) <;> (repeat (refine (aw_draw (by kernel_rfl)).2 ?_; simp -dsimp (disch := first | omega | (simp only [LR] <;> omega) | fail) only [push_cast, simprocAttr, -Nat.reduceSubDiff]))
    rfl
  (simp -dsimp (disch := first | omega | (simp only [LR] <;> omega) | fail) only [push_cast, simprocAttr, -Nat.reduceSubDiff]) <;> (repeat (refine (aw_draw (by kernel_rfl)).2 ?_; simp -dsimp (disch := first | omega | (simp only [LR] <;> omega) | fail) only [push_cast, simprocAttr, -Nat.reduceSubDiff]))
  refine callC (l1In ..) ?_
  cases hn : inB now 0 1000000 with
  | false =>
    rw [hn, Bool.and_false, if_pos rfl] at hM
    subst hM
    (simp -dsimp (disch := first | omega | (simp only [LR] <;> omega) | fail) only [push_cast, simprocAttr, -Nat.reduceSubDiff]) <;> (repeat (refine (aw_draw (by kernel_rfl)).2 ?_; simp -dsimp (disch := first | omega | (simp only [LR] <;> omega) | fail) only [push_cast, simprocAttr, -Nat.reduceSubDiff]))
    rfl
  | true =>
  rw [if_neg (by rw [hv, hn, show decide (t.size ≤ 3000) = true from decide_eq_true (by omega)]; simp)] at hM
  have hnl := nameS_le t s.w
  (simp -dsimp (disch := first | omega | (simp only [LR] <;> omega) | fail) only [push_cast, simprocAttr, -Nat.reduceSubDiff]) <;> (repeat (refine (aw_draw (by kernel_rfl)).2 ?_; simp -dsimp (disch := first | omega | (simp only [LR] <;> omega) | fail) only [push_cast, simprocAttr, -Nat.reduceSubDiff]))
  refine callC (specName t s.w (by omega)) ?_
  (simp -dsimp (disch := first | omega | (simp only [LR] <;> omega) | fail) only [push_cast, simprocAttr, -Nat.reduceSubDiff]) <;> (repeat (refine (aw_draw (by kernel_rfl)).2 ?_; simp -dsimp (disch := first | omega | (simp only [LR] <;> omega) | fail) only [push_cast, simprocAttr, -Nat.reduceSubDiff]))
  refine callC (specPin s (nameS t s.w) hs) ?_
  have hpo := pinS_ok hs (n := nameS t s.w) (by show _ ≤ _; omega)
  generalize pinS s (nameS t s.w) = R at *
  obtain ⟨o, c⟩ := R
  simp only at hM hpo ⊢
  by_cases hc : c = 0
  rotate_left
  · rw [if_neg hc] at hM
    subst hM
    (simp -dsimp (disch := first | omega | (simp only [hc, LR] <;> omega) | fail) only [push_cast, hc, simprocAttr, -Nat.reduceSubDiff]) <;> (repeat (refine (aw_draw (by kernel_rfl)).2 ?_; simp -dsimp (disch := first | omega | (simp only [hc, LR] <;> omega) | fail) only [push_cast, hc, simprocAttr, -Nat.reduceSubDiff]))
    rfl
  rw [if_pos hc] at hM
  subst hc
  have hdl := desc_len (t := t) (w := s.w)
  (simp -dsimp (disch := first | omega | (simp only [LR] <;> omega) | fail) only [push_cast, simprocAttr, -Nat.reduceSubDiff]) <;> (repeat (refine (aw_draw (by kernel_rfl)).2 ?_; simp -dsimp (disch := first | omega | (simp only [LR] <;> omega) | fail) only [push_cast, simprocAttr, -Nat.reduceSubDiff]))
  refine callC (specDescribe t s.w (by omega)) ?_
  (simp -dsimp (disch := first | omega | (simp only [LR] <;> omega) | fail) only [push_cast, simprocAttr, -Nat.reduceSubDiff]) <;> (repeat (refine (aw_draw (by kernel_rfl)).2 ?_; simp -dsimp (disch := first | omega | (simp only [LR] <;> omega) | fail) only [push_cast, simprocAttr, -Nat.reduceSubDiff]))
  refine callC (specFormList (descL t s.w).1 s.w (by omega)) ?_
  (simp -dsimp (disch := first | omega | (simp only [LR] <;> omega) | fail) only [push_cast, simprocAttr, -Nat.reduceSubDiff]) <;> (repeat (refine (aw_draw (by kernel_rfl)).2 ?_; simp -dsimp (disch := first | omega | (simp only [LR] <;> omega) | fail) only [push_cast, simprocAttr, -Nat.reduceSubDiff]))
  refine callC (specPieces t (by omega)) ?_
  have hsz := fun x (hx : x ∈ partsL t s.w) => parts_sz hx
  have hln := parts_len t s.w
  have hpl := pieces_len t
  have hL : [.sc (.string (formL (descL t s.w).1 s.w))] :: (piecesL t).map strR = (partsL t s.w).map strR := rfl
  have hLl : 1 + (piecesL t).length = (partsL t s.w).length := by unfold partsL; rw [List.length_cons]; omega
  generalize partsL t s.w = L at *
  generalize piecesL t = P at *
  generalize formL (descL t s.w).1 s.w = W at *
  (simp -dsimp (disch := first | omega | (simp only [hL, hLl, LR] <;> omega) | fail) only [push_cast, hL, hLl, simprocAttr, -Nat.reduceSubDiff]) <;> (repeat (refine (aw_draw (by kernel_rfl)).2 ?_; simp -dsimp (disch := first | omega | (simp only [hL, hLl, LR] <;> omega) | fail) only [push_cast, hL, hLl, simprocAttr, -Nat.reduceSubDiff]))
  refine loop_ind (α := Nat × Store) (fun q => q.1 ≤ L.length ∧ okStore q.2 ∧ putsF now q.2 (L.drop q.1) = M)
    (fun q => ⟨[(2, .sc (.int .i64 now)), (6, .pt 1 0 0), (8, .pt 4 0 0), (10, .ow 7 0 L.length), (11, .sc (.int .i64 q.1))],
      [(1, .bx [.sc (.int .i64 0), .sc (.int .i64 0), .ow 2 0 0, .ow 3 0 0]), (2, .ar 2 0 []), (3, .ar 1 0 []), (4, .bx [.sc (.int .i64 q.2.w), .sc (.int .i64 q.2.r), .ow 5 0 q.2.I.length, .ow 6 0 q.2.P.length]), (5, .ar 2 0 (q.2.I.map (itemC true))), (6, .ar 1 0 (q.2.P.map strR)), (7, .ar 1 0 (L.map strR))], 8⟩) (fun q => L.length - q.1) (0, o) ⟨Nat.zero_le _, hpo, by rw [hM]; rfl⟩ ?_ ?_
  · simp -dsimp (disch := first | omega | (simp only [hL, hLl, LR] <;> omega) | fail) only [push_cast, hL, hLl, simprocAttr, -Nat.reduceSubDiff]
  rintro ⟨i, a⟩ ⟨hi, ha, hq⟩ ih
  replace hi : i ≤ L.length := hi
  replace ha : okStore a := ha
  replace hq : putsF now a (L.drop i) = M := hq
  by_cases h : i < L.length
  · obtain ⟨x, hx⟩ := ex_get h
    have hxs := hsz x (List.mem_of_getElem? hx)
    rw [drop_step hx, putsF] at hq
    (simp -dsimp (disch := first | omega | (simp only [h, hx, LR] <;> omega) | fail) only [push_cast, h, hx, simprocAttr, -Nat.reduceSubDiff]) <;> (repeat (refine (aw_draw (by kernel_rfl)).2 ?_; simp -dsimp (disch := first | omega | (simp only [h, hx, LR] <;> omega) | fail) only [push_cast, h, hx, simprocAttr, -Nat.reduceSubDiff]))
    refine callC (specPut a x now ha (by omega)) ?_
    have hpo := put_ok (now := now) (t := x) ha (by omega)
    generalize putF a x now = R at *
    obtain ⟨b, c⟩ := R
    simp only at hq hpo ⊢
    by_cases hc : c = 0
    · rw [if_pos hc] at hq
      subst hc
      (simp -dsimp (disch := first | omega | (simp only [h, hx, LR] <;> omega) | fail) only [push_cast, h, hx, simprocAttr, -Nat.reduceSubDiff]) <;> (repeat (refine (aw_draw (by kernel_rfl)).2 ?_; simp -dsimp (disch := first | omega | (simp only [h, hx, LR] <;> omega) | fail) only [push_cast, h, hx, simprocAttr, -Nat.reduceSubDiff]))
      refine ih (i + 1, b) _ (by show L.length - (i + 1) < L.length - i; omega) ⟨h, hpo, hq⟩ ?_
      simp -dsimp (disch := first | omega | (simp only [wr_id, LR] <;> omega) | fail) only [push_cast, wr_id, simprocAttr, -Nat.reduceSubDiff]
    · rw [if_neg hc] at hq
      subst hq
      (simp -dsimp (disch := first | omega | (simp only [h, hx, hc, LR] <;> omega) | fail) only [push_cast, h, hx, hc, simprocAttr, -Nat.reduceSubDiff]) <;> (repeat (refine (aw_draw (by kernel_rfl)).2 ?_; simp -dsimp (disch := first | omega | (simp only [h, hx, hc, LR] <;> omega) | fail) only [push_cast, h, hx, hc, simprocAttr, -Nat.reduceSubDiff]))
      rfl
  · rw [List.drop_eq_nil_of_le (by omega), putsF] at hq
    subst hq
    (simp -dsimp (disch := first | omega | (simp only [h, LR] <;> omega) | fail) only [push_cast, h, simprocAttr, -Nat.reduceSubDiff]) <;> (repeat (refine (aw_draw (by kernel_rfl)).2 ?_; simp -dsimp (disch := first | omega | (simp only [h, LR] <;> omega) | fail) only [push_cast, h, simprocAttr, -Nat.reduceSubDiff]))
def E15 : Env := { T := T0, kp := look [(0, [0, 1, 2]), (1, [1, 2, 3, 6]), (2, [6]), (3, [1, 2, 3, 6]), (4, [1, 2, 3, 6, 8, 9]), (5, [6, 9]), (6, [1, 2, 3, 6, 8]), (7, [2, 6, 8, 49, 50, 51]), (8, [2, 6, 8, 49, 50, 51]), (9, [2, 6, 8, 11, 49, 50, 51]), (10, [2, 6, 8, 9, 49, 50, 51]), (11, [6, 9]), (12, [2, 6, 8, 49, 50, 51]), (13, [6, 8])], dp := look2 [(3, [[], [], [], [2], [1, 2, 3], [0, 1, 2, 3, 4], [0, 1, 2, 3, 4, 5], [0, 1, 2, 3, 4, 5, 6], [0, 1, 2, 3, 4, 5, 6], [], [0, 1, 2, 3, 4, 5, 6, 7, 9], [0, 1, 2, 3, 4, 5, 6, 7, 8, 9, 10]]), (6, [[], [], [1], [0, 1, 2], [], [4], [0, 1, 2, 3, 4, 5], [0, 1, 2, 3, 4, 5, 6], [], [0, 1, 2, 3, 4, 5, 6, 8], [0, 1, 2, 3, 4, 5, 6, 7, 8, 9], [0, 1, 2, 3, 4, 5, 6, 7, 8, 9, 10], []])] }
attribute [local push_cast] E15
set_option maxRecDepth 20000 in
set_option maxHeartbeats 2000000 in
theorem implSave (s : Store) (t : Str) (now : Int) (hs : okStore s) (ht : t.size ≤ 2097152) : Does Tryz.prog 15 [.ag (storeC false s), .sc (.string t), .sc (.int .i64 now)] (.tu [.ag (storeC true (saveF s t now).1), .sc (.int .i64 (saveF s t now).2)], []) := by
  refine does_of (E := E15) (rs := [.cell 6 26, .tmp 7]) (lent := []) tOk rfl Tryz.func15 rfl (by decide) rfl rfl (Nat.le_of_ble_eq_true rfl) (Nat.le_of_ble_eq_true rfl) ?_
  obtain ⟨M, hM⟩ : ∃ M, M = saveF s t now := ⟨_, rfl⟩
  rw [← hM]
  unfold saveF at hM
  (simp -dsimp (disch := first | omega | (simp only [LR] <;> omega) | fail) only [push_cast, simprocAttr, -Nat.reduceSubDiff]) <;> (repeat (refine (aw_draw (by kernel_rfl)).2 ?_; simp -dsimp (disch := first | omega | (simp only [LR] <;> omega) | fail) only [push_cast, simprocAttr, -Nat.reduceSubDiff]))
  refine callC (implValidStore s hs) ?_
  cases hv : validSt s with
  | false =>
    rw [hv, Bool.false_and, Bool.false_and, if_pos rfl] at hM
    subst hM
    (simp -dsimp (disch := first | omega | (simp only [LR] <;> omega) | fail) only [push_cast, simprocAttr, -Nat.reduceSubDiff]) <;> (repeat (refine (aw_draw (by kernel_rfl)).2 ?_; simp -dsimp (disch := first | omega | (simp only [LR] <;> omega) | fail) only [push_cast, simprocAttr, -Nat.reduceSubDiff]))
    rfl
  | true =>
  by_cases hbig : 3000 < t.size
  · rw [show decide (t.size ≤ 3000) = false from decide_eq_false (by omega), Bool.and_false, Bool.false_and, if_pos rfl] at hM
    subst hM
    (simp -dsimp (disch := first | omega | (simp only [LR] <;> omega) | fail) only [push_cast, simprocAttr, -Nat.reduceSubDiff]) <;> (repeat (refine (aw_draw (by kernel_rfl)).2 ?_; simp -dsimp (disch := first | omega | (simp only [LR] <;> omega) | fail) only [push_cast, simprocAttr, -Nat.reduceSubDiff]))
    rfl
  (simp -dsimp (disch := first | omega | (simp only [LR] <;> omega) | fail) only [push_cast, simprocAttr, -Nat.reduceSubDiff]) <;> (repeat (refine (aw_draw (by kernel_rfl)).2 ?_; simp -dsimp (disch := first | omega | (simp only [LR] <;> omega) | fail) only [push_cast, simprocAttr, -Nat.reduceSubDiff]))
  refine callC (timeOk now) ?_
  cases hn : inB now 0 1000000 with
  | false =>
    rw [hn, Bool.and_false, if_pos rfl] at hM
    subst hM
    (simp -dsimp (disch := first | omega | (simp only [LR] <;> omega) | fail) only [push_cast, simprocAttr, -Nat.reduceSubDiff]) <;> (repeat (refine (aw_draw (by kernel_rfl)).2 ?_; simp -dsimp (disch := first | omega | (simp only [LR] <;> omega) | fail) only [push_cast, simprocAttr, -Nat.reduceSubDiff]))
    rfl
  | true =>
  rw [if_neg (by rw [hv, hn, show decide (t.size ≤ 3000) = true from decide_eq_true (by omega)]; simp)] at hM
  have hnl := nameS_le t s.w
  (simp -dsimp (disch := first | omega | (simp only [LR] <;> omega) | fail) only [push_cast, simprocAttr, -Nat.reduceSubDiff]) <;> (repeat (refine (aw_draw (by kernel_rfl)).2 ?_; simp -dsimp (disch := first | omega | (simp only [LR] <;> omega) | fail) only [push_cast, simprocAttr, -Nat.reduceSubDiff]))
  refine callC (implName t s.w (by omega)) ?_
  (simp -dsimp (disch := first | omega | (simp only [LR] <;> omega) | fail) only [push_cast, simprocAttr, -Nat.reduceSubDiff]) <;> (repeat (refine (aw_draw (by kernel_rfl)).2 ?_; simp -dsimp (disch := first | omega | (simp only [LR] <;> omega) | fail) only [push_cast, simprocAttr, -Nat.reduceSubDiff]))
  refine callC (implPin s (nameS t s.w) hs) ?_
  have hpo := pinS_ok hs (n := nameS t s.w) (by show _ ≤ _; omega)
  generalize pinS s (nameS t s.w) = R at *
  obtain ⟨o, c⟩ := R
  simp only at hM hpo ⊢
  by_cases hc : c = 0
  rotate_left
  · rw [if_neg hc] at hM
    subst hM
    (simp -dsimp (disch := first | omega | (simp only [hc, LR] <;> omega) | fail) only [push_cast, hc, simprocAttr, -Nat.reduceSubDiff]) <;> (repeat (refine (aw_draw (by kernel_rfl)).2 ?_; simp -dsimp (disch := first | omega | (simp only [hc, LR] <;> omega) | fail) only [push_cast, hc, simprocAttr, -Nat.reduceSubDiff]))
    rfl
  rw [if_pos hc] at hM
  subst hc
  have hdl := desc_len (t := t) (w := s.w)
  (simp -dsimp (disch := first | omega | (simp only [LR] <;> omega) | fail) only [push_cast, simprocAttr, -Nat.reduceSubDiff]) <;> (repeat (refine (aw_draw (by kernel_rfl)).2 ?_; simp -dsimp (disch := first | omega | (simp only [LR] <;> omega) | fail) only [push_cast, simprocAttr, -Nat.reduceSubDiff]))
  refine callC (implDescribe t s.w (by omega)) ?_
  (simp -dsimp (disch := first | omega | (simp only [LR] <;> omega) | fail) only [push_cast, simprocAttr, -Nat.reduceSubDiff]) <;> (repeat (refine (aw_draw (by kernel_rfl)).2 ?_; simp -dsimp (disch := first | omega | (simp only [LR] <;> omega) | fail) only [push_cast, simprocAttr, -Nat.reduceSubDiff]))
  refine callC (implFormList (descL t s.w).1 s.w (by omega)) ?_
  (simp -dsimp (disch := first | omega | (simp only [LR] <;> omega) | fail) only [push_cast, simprocAttr, -Nat.reduceSubDiff]) <;> (repeat (refine (aw_draw (by kernel_rfl)).2 ?_; simp -dsimp (disch := first | omega | (simp only [LR] <;> omega) | fail) only [push_cast, simprocAttr, -Nat.reduceSubDiff]))
  refine callC (implPieces t (by omega)) ?_
  have hsz := fun x (hx : x ∈ partsL t s.w) => parts_sz hx
  have hln := parts_len t s.w
  have hpl := pieces_len t
  have hL : [.sc (.string (formL (descL t s.w).1 s.w))] :: (piecesL t).map strR = (partsL t s.w).map strR := rfl
  have hLl : 1 + (piecesL t).length = (partsL t s.w).length := by unfold partsL; rw [List.length_cons]; omega
  generalize partsL t s.w = L at *
  generalize piecesL t = P at *
  generalize formL (descL t s.w).1 s.w = W at *
  (simp -dsimp (disch := first | omega | (simp only [hL, hLl, LR] <;> omega) | fail) only [push_cast, hL, hLl, simprocAttr, -Nat.reduceSubDiff]) <;> (repeat (refine (aw_draw (by kernel_rfl)).2 ?_; simp -dsimp (disch := first | omega | (simp only [hL, hLl, LR] <;> omega) | fail) only [push_cast, hL, hLl, simprocAttr, -Nat.reduceSubDiff]))
  refine loop_ind (α := Nat × Store) (fun q => q.1 ≤ L.length ∧ okStore q.2 ∧ putsF now q.2 (L.drop q.1) = M)
    (fun q => ⟨[(2, .sc (.int .i64 now)), (6, .pt 1 0 0), (8, .pt 4 0 0), (49, .ow 7 0 L.length), (50, .sc (.int .i64 L.length)), (51, .sc (.int .i64 q.1))],
      [(1, .bx [.sc (.int .i64 0), .sc (.int .i64 0), .ow 2 0 0, .ow 3 0 0]), (2, .ar 2 0 []), (3, .ar 1 0 []), (4, .bx [.sc (.int .i64 q.2.w), .sc (.int .i64 q.2.r), .ow 5 0 q.2.I.length, .ow 6 0 q.2.P.length]), (5, .ar 2 0 (q.2.I.map (itemC true))), (6, .ar 1 0 (q.2.P.map strR)), (7, .ar 1 0 (L.map strR))], 8⟩) (fun q => L.length - q.1) (0, o) ⟨Nat.zero_le _, hpo, by rw [hM]; rfl⟩ ?_ ?_
  · simp -dsimp (disch := first | omega | (simp only [hL, hLl, LR] <;> omega) | fail) only [push_cast, hL, hLl, simprocAttr, -Nat.reduceSubDiff]
  rintro ⟨i, a⟩ ⟨hi, ha, hq⟩ ih
  replace hi : i ≤ L.length := hi
  replace ha : okStore a := ha
  replace hq : putsF now a (L.drop i) = M := hq
  by_cases h : i < L.length
  · obtain ⟨x, hx⟩ := ex_get h
    have hxs := hsz x (List.mem_of_getElem? hx)
    rw [drop_step hx, putsF] at hq
    (simp -dsimp (disch := first | omega | (simp only [h, hx, LR] <;> omega) | fail) only [push_cast, h, hx, simprocAttr, -Nat.reduceSubDiff]) <;> (repeat (refine (aw_draw (by kernel_rfl)).2 ?_; simp -dsimp (disch := first | omega | (simp only [h, hx, LR] <;> omega) | fail) only [push_cast, h, hx, simprocAttr, -Nat.reduceSubDiff]))
    refine callC (implPut a x now ha (by omega)) ?_
    have hpo := put_ok (now := now) (t := x) ha (by omega)
    generalize putF a x now = R at *
    obtain ⟨b, c⟩ := R
    simp only at hq hpo ⊢
    by_cases hc : c = 0
    · rw [if_pos hc] at hq
      subst hc
      (simp -dsimp (disch := first | omega | (simp only [h, hx, LR] <;> omega) | fail) only [push_cast, h, hx, simprocAttr, -Nat.reduceSubDiff]) <;> (repeat (refine (aw_draw (by kernel_rfl)).2 ?_; simp -dsimp (disch := first | omega | (simp only [h, hx, LR] <;> omega) | fail) only [push_cast, h, hx, simprocAttr, -Nat.reduceSubDiff]))
      refine ih (i + 1, b) _ (by show L.length - (i + 1) < L.length - i; omega) ⟨h, hpo, hq⟩ ?_
      simp -dsimp (disch := first | omega | (simp only [wr_id, LR] <;> omega) | fail) only [push_cast, wr_id, simprocAttr, -Nat.reduceSubDiff]
    · rw [if_neg hc] at hq
      subst hq
      (simp -dsimp (disch := first | omega | (simp only [h, hx, hc, LR] <;> omega) | fail) only [push_cast, h, hx, hc, simprocAttr, -Nat.reduceSubDiff]) <;> (repeat (refine (aw_draw (by kernel_rfl)).2 ?_; simp -dsimp (disch := first | omega | (simp only [h, hx, hc, LR] <;> omega) | fail) only [push_cast, h, hx, hc, simprocAttr, -Nat.reduceSubDiff]))
      rfl
  · rw [List.drop_eq_nil_of_le (by omega), putsF] at hq
    subst hq
    (simp -dsimp (disch := first | omega | (simp only [h, LR] <;> omega) | fail) only [push_cast, h, simprocAttr, -Nat.reduceSubDiff]) <;> (repeat (refine (aw_draw (by kernel_rfl)).2 ?_; simp -dsimp (disch := first | omega | (simp only [h, LR] <;> omega) | fail) only [push_cast, h, simprocAttr, -Nat.reduceSubDiff]))
end Go.Proofs.YtkkmgjhfjhcdmaaGreatDoor.Mx

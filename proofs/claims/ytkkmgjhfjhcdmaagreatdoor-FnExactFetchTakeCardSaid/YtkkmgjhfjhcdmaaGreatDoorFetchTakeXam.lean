/- A machine over values for Go functions, proved sound, and functions run on it: texts F50, F46, F51, V10, V13, F14, F16. -/
import Derived.Test.YtkkmgjhfjhcdmaaGreatDoorShB
import Derived.Test.YtkkmgjhfjhcdmaaGreatDoorFetchTakeXah
import Derived.Test.YtkkmgjhfjhcdmaaGreatDoorFetchTakeXai
import Derived.Test.YtkkmgjhfjhcdmaaGreatDoorFetchTakeXaj
import Derived.Test.YtkkmgjhfjhcdmaaGreatDoorFetchTakeXak
import Derived.Test.YtkkmgjhfjhcdmaaGreatDoorFetchTakeXal
/- Texts put into stores: the reference. -/
namespace Go.Proofs.YtkkmgjhfjhcdmaaGreatDoor.Mx
set_option linter.all false
open Go Go.RowKit Go.Proofs
set_option linter.unusedSimpArgs false
theorem seg_tk {α : Type} (l : List α) (f : α → Row) (n : Nat) : seg (l.map f) 0 n = (l.take n).map f := by simp [seg, List.map_take]
theorem seg_dr {α : Type} (l : List α) (f : α → Row) (a n : Nat) (h : l.length ≤ a + n) : seg (l.map f) a n = (l.drop a).map f := by
  unfold seg; rw [List.take_of_length_le (by simp; omega), List.map_drop]
def awayF (s : Store) (N : List Str) : Store × Bool := if bestF s.w N s.I s.I.length < 0 then (s, false) else ({ s with I := rmAt s.I (bestF s.w N s.I s.I.length).toNat }, true)
def E69 : Env := { T := T0, kp := look [(0, [0, 1]), (1, [1, 2, 4]), (2, [1, 2, 4, 6]), (3, [1, 2, 4, 6, 7]), (4, [1, 2, 4, 6, 7]), (5, [1, 2, 4, 6, 7]), (6, [1, 2, 4, 7]), (7, [2, 4, 6]), (8, [2, 4]), (9, [2, 4, 6]), (10, [2, 4])], dp := look2 [(5, [[], [], [1], [], [1, 2, 3], [1, 2, 3, 4], [1, 2, 3, 4, 5], [], [7], [1, 2, 3, 4, 5, 6, 7, 8], [0, 1, 2, 3, 4, 5, 6, 7, 8, 9], [0, 1, 2, 3, 4, 5, 6, 7, 8, 9, 10], [0, 1, 2, 3, 4, 5, 6, 7, 8, 9, 10, 11], [0, 1, 2, 3, 4, 5, 6, 7, 8, 9, 10, 11, 12], [0, 1, 2, 3, 4, 5, 6, 7, 8, 9, 10, 11, 12, 13], [0, 1, 2, 3, 4, 5, 6, 7, 8, 9, 10, 11, 12, 13, 14], [0, 1, 2, 3, 4, 5, 6, 7, 8, 9, 10, 11, 12, 13, 14, 15], [0, 1, 2, 3, 4, 5, 6, 7, 8, 9, 10, 11, 12, 13, 14, 15, 16], [0, 1, 2, 3, 4, 5, 6, 7, 8, 9, 10, 11, 12, 13, 14, 15], [0, 1, 2, 3, 4, 5, 6, 7, 8, 9, 10, 11, 12, 13, 14, 15, 16, 17, 18], [0, 1, 2, 3, 4, 5, 6, 7, 8, 9, 10, 11, 12, 13, 14, 15, 16, 17, 18, 19], [0, 1, 2, 3, 4, 5, 6, 7, 8, 9, 10, 11, 12, 13, 14, 15, 16, 17, 18, 19, 20], [0, 1, 2, 3, 4, 5, 6, 7, 8, 9, 10, 11, 12, 13, 14, 15], [0, 1, 2, 3, 4, 5, 6, 7, 8, 9, 10, 11, 12, 13, 14, 15, 22], [0, 1, 2, 3, 4, 5, 6, 7, 8, 9, 10, 11, 12, 13, 14, 15], [0, 1, 2, 3, 4, 5, 6, 7, 8, 9, 10, 11, 12, 13, 14, 15, 22, 23, 24], [0, 1, 2, 3, 4, 5, 6, 7, 8, 9, 10, 11, 12, 13, 14, 15, 22, 23, 24, 25], [0, 1, 2, 3, 4, 5, 6, 7, 8, 9, 10, 11, 12, 13, 14, 15, 22, 23, 24, 25, 26], [0, 1, 2, 3, 4, 5, 6, 7, 8, 9, 10, 11, 12, 13, 14, 15, 16, 17, 18, 19, 20, 21, 22, 23, 24, 25, 26, 27], [0, 1, 2, 3, 4, 5, 6, 7, 8, 9, 10, 11, 12, 13, 14, 15, 16, 17, 18, 19, 20, 21, 22, 23, 24, 25, 26, 27, 28], [0, 1, 2, 3, 4, 5, 6, 7, 8, 9, 10, 11, 12, 13, 14, 15, 16, 17, 18, 19, 20, 21, 22, 23, 24, 25, 26, 27, 28, 29]]), (9, [[], [], [1], [], [1, 2, 3], [0, 1, 2, 3, 4], [], [6], [], [8], [6, 7, 8, 9], [0, 1, 2, 3, 4, 5, 6, 7, 8, 9, 10], [0, 1, 2, 3, 4, 5, 6, 7, 8, 9, 10, 11], [0, 1, 2, 3, 4, 5, 6, 7, 8, 9, 10, 11, 12]])] }
attribute [local push_cast] E69
set_option maxRecDepth 20000 in
set_option maxHeartbeats 4000000 in
theorem l4Away (s : Store) (N : List Str) (hs : okStore s) (hN : N.length ≤ 2097152) : Does Tryz.prog 69 [.ag (storeC true s), .sl false 1 (N.map strR)] (.tu [.ag (storeC true (awayF s N).1), .sc (.bool (awayF s N).2)], []) := by
  refine does_of (E := E69) (rs := [.cell 4 26, .tmp 5]) (lent := []) tOk rfl Tryz.func69 rfl (by decide) rfl rfl (Nat.le_of_ble_eq_true rfl) (Nat.le_of_ble_eq_true rfl) ?_
  obtain ⟨M, hM⟩ : ∃ M, M = awayF s N := ⟨_, rfl⟩
  rw [← hM]
  unfold awayF at hM
  have hl := hs.1.1
  (simp -dsimp (disch := first | omega | (simp only [LR] <;> omega) | fail) only [push_cast, simprocAttr, -Nat.reduceSubDiff]) <;> (repeat (refine (aw_draw (by kernel_rfl)).2 ?_; simp -dsimp (disch := first | omega | (simp only [LR] <;> omega) | fail) only [push_cast, simprocAttr, -Nat.reduceSubDiff]))
  refine loop_ind (α := Nat) (fun i => i ≤ s.I.length)
    (fun i => ⟨[(1, .sl false 1 (N.map strR)), (2, .pt 1 0 0), (4, .pt 4 0 0), (6, .sc (.int .i64 (bestF s.w N s.I i))), (7, .sc (.int .i64 i))], [(1, .bx [.sc (.int .i64 s.w), .sc (.int .i64 s.r), .ow 2 0 s.I.length, .ow 3 0 s.P.length]), (2, .ar 2 0 (s.I.map (itemC true))), (3, .ar 1 0 (s.P.map strR)), (4, .bx [.sc (.int .i64 0), .sc (.int .i64 0), .ow 5 0 0, .ow 6 0 0]), (5, .ar 2 0 []), (6, .ar 1 0 [])], 7⟩) (fun i => s.I.length - i) 0 (Nat.zero_le _) ?_ ?_
  · simp -dsimp (disch := first | omega | (simp only [bestF, LR] <;> omega) | fail) only [push_cast, bestF, simprocAttr, -Nat.reduceSubDiff]
  intro i hi ih
  by_cases h : i < s.I.length
  · obtain ⟨x, hx⟩ := ex_get h
    have hxt : x.t.size ≤ 2097152 := hs.1.2 x (List.mem_of_getElem? hx)
    have hst : bestF s.w N s.I (i + 1) = if inL N (sumS x.t s.w) = false ∧ (bestF s.w N s.I i < 0 ∨ x.u < usedAt s.I (bestF s.w N s.I i)) then (i : Int) else bestF s.w N s.I i := by rw [bestF, hx]
    have hr := best_rng s.w N s.I i
    obtain ⟨B, hB⟩ : ∃ B, B = bestF s.w N s.I i := ⟨_, rfl⟩
    rw [← hB] at hst hr ⊢
    (simp -dsimp (disch := first | omega | (simp only [h, hx, LR] <;> omega) | fail) only [push_cast, h, hx, simprocAttr, -Nat.reduceSubDiff]) <;> (repeat (refine (aw_draw (by kernel_rfl)).2 ?_; simp -dsimp (disch := first | omega | (simp only [h, hx, LR] <;> omega) | fail) only [push_cast, h, hx, simprocAttr, -Nat.reduceSubDiff]))
    refine callC (specSum x.t s.w (by omega)) ?_
    (simp -dsimp (disch := first | omega | (simp only [h, hx, LR] <;> omega) | fail) only [push_cast, h, hx, simprocAttr, -Nat.reduceSubDiff]) <;> (repeat (refine (aw_draw (by kernel_rfl)).2 ?_; simp -dsimp (disch := first | omega | (simp only [h, hx, LR] <;> omega) | fail) only [push_cast, h, hx, simprocAttr, -Nat.reduceSubDiff]))
    refine callC (l2In N (sumS x.t s.w) hN) ?_
    cases hin : inL N (sumS x.t s.w) with
    | true =>
      rw [if_neg (by rw [hin]; simp)] at hst
      (simp -dsimp (disch := first | omega | (simp only [h, hx, LR] <;> omega) | fail) only [push_cast, h, hx, simprocAttr, -Nat.reduceSubDiff]) <;> (repeat (refine (aw_draw (by kernel_rfl)).2 ?_; simp -dsimp (disch := first | omega | (simp only [h, hx, LR] <;> omega) | fail) only [push_cast, h, hx, simprocAttr, -Nat.reduceSubDiff]))
      refine ih (i + 1) _ (by omega) h ?_
      rw [hst]
      simp -dsimp (disch := first | omega | (simp only [wr_id, LR] <;> omega) | fail) only [push_cast, wr_id, simprocAttr, -Nat.reduceSubDiff]
    | false =>
    by_cases hB0 : B < 0
    · rw [if_pos ⟨hin, .inl hB0⟩] at hst
      (simp -dsimp (disch := first | omega | (simp only [h, hx, hB0, LR] <;> omega) | fail) only [push_cast, h, hx, hB0, simprocAttr, -Nat.reduceSubDiff]) <;> (repeat (refine (aw_draw (by kernel_rfl)).2 ?_; simp -dsimp (disch := first | omega | (simp only [h, hx, hB0, LR] <;> omega) | fail) only [push_cast, h, hx, hB0, simprocAttr, -Nat.reduceSubDiff]))
      refine ih (i + 1) _ (by omega) h ?_
      rw [hst]
      simp -dsimp (disch := first | omega | (simp only [wr_id, LR] <;> omega) | fail) only [push_cast, wr_id, simprocAttr, -Nat.reduceSubDiff]
    obtain ⟨k, hk⟩ : ∃ k : Nat, B = k := ⟨B.toNat, by omega⟩
    rw [hk] at hst hB0 hr ⊢
    obtain ⟨y, hy⟩ := ex_get (show k < s.I.length by omega)
    have hua : usedAt s.I (k : Int) = y.u := by unfold usedAt; rw [Int.toNat_natCast, hy]
    rw [hua] at hst
    by_cases hlt : x.u < y.u
    · rw [if_pos ⟨hin, .inr hlt⟩] at hst
      (simp -dsimp (disch := first | omega | (simp only [h, hx, hy, hB0, hlt, LR] <;> omega) | fail) only [push_cast, h, hx, hy, hB0, hlt, simprocAttr, -Nat.reduceSubDiff]) <;> (repeat (refine (aw_draw (by kernel_rfl)).2 ?_; simp -dsimp (disch := first | omega | (simp only [h, hx, hy, hB0, hlt, LR] <;> omega) | fail) only [push_cast, h, hx, hy, hB0, hlt, simprocAttr, -Nat.reduceSubDiff]))
      refine ih (i + 1) _ (by omega) h ?_
      rw [hst]
      simp -dsimp (disch := first | omega | (simp only [wr_id, LR] <;> omega) | fail) only [push_cast, wr_id, simprocAttr, -Nat.reduceSubDiff]
    · rw [if_neg (by rintro ⟨_, q | q⟩; exact hB0 q; exact hlt q)] at hst
      (simp -dsimp (disch := first | omega | (simp only [h, hx, hy, hB0, hlt, LR] <;> omega) | fail) only [push_cast, h, hx, hy, hB0, hlt, simprocAttr, -Nat.reduceSubDiff]) <;> (repeat (refine (aw_draw (by kernel_rfl)).2 ?_; simp -dsimp (disch := first | omega | (simp only [h, hx, hy, hB0, hlt, LR] <;> omega) | fail) only [push_cast, h, hx, hy, hB0, hlt, simprocAttr, -Nat.reduceSubDiff]))
      refine ih (i + 1) _ (by omega) h ?_
      rw [hst]
      simp -dsimp (disch := first | omega | (simp only [wr_id, LR] <;> omega) | fail) only [push_cast, wr_id, simprocAttr, -Nat.reduceSubDiff]
  · have hi : i = s.I.length := by omega
    subst hi
    have hr := best_rng s.w N s.I s.I.length
    obtain ⟨B, hB⟩ : ∃ B, B = bestF s.w N s.I s.I.length := ⟨_, rfl⟩
    rw [← hB] at hr hM ⊢
    by_cases hB0 : B < 0
    · rw [if_pos hB0] at hM
      subst hM
      (simp -dsimp (disch := first | omega | (simp only [hB0, LR] <;> omega) | fail) only [push_cast, hB0, simprocAttr, -Nat.reduceSubDiff]) <;> (repeat (refine (aw_draw (by kernel_rfl)).2 ?_; simp -dsimp (disch := first | omega | (simp only [hB0, LR] <;> omega) | fail) only [push_cast, hB0, simprocAttr, -Nat.reduceSubDiff]))
    obtain ⟨k, hk⟩ : ∃ k : Nat, B = k := ⟨B.toNat, by omega⟩
    rw [if_neg hB0] at hM
    rw [hk, Int.toNat_natCast] at hM
    rw [hk] at hB0 hr ⊢
    subst hM
    have e1 : ((k : Int) + 1).toNat = k + 1 := by omega
    (simp -dsimp (disch := first | omega | (simp only [hB0, e1, seg_tk, seg_dr, wr_id, rmAt, List.map_append, LR] <;> omega) | fail) only [push_cast, hB0, e1, seg_tk, seg_dr, wr_id, rmAt, List.map_append, simprocAttr, -Nat.reduceSubDiff]) <;> (repeat (refine (aw_draw (by kernel_rfl)).2 ?_; simp -dsimp (disch := first | omega | (simp only [hB0, e1, seg_tk, seg_dr, wr_id, rmAt, List.map_append, LR] <;> omega) | fail) only [push_cast, hB0, e1, seg_tk, seg_dr, wr_id, rmAt, List.map_append, simprocAttr, -Nat.reduceSubDiff]))
theorem valid_P {s : Store} (hv : validSt s = true) : s.P.length ≤ 10 := by
  unfold validSt at hv
  simp only [Bool.and_eq_true, decide_eq_true_eq] at hv
  exact hv.1.1.1.2
theorem needL_len {s : Store} (hP : s.P.length ≤ 10) : (needL s).length ≤ 3760 := by
  have h1 := foldS_len (nmsL s) []
  have h2 := nms_len s s.P
  unfold needL
  unfold nmsL at h1 ⊢
  rw [List.length_nil] at h1
  omega
theorem set_item (I : List Item) (k : Nat) (t : Str) (u : Int) : (I.map (itemC true)).set k [.sc (.string t), .sc (.int .i64 u)] = (I.set k ⟨t, u⟩).map (itemC true) := by
  rw [List.map_set]; rfl
def E14 : Env := { T := T0, kp := look [(0, [0, 1, 2]), (1, [1, 2, 3, 6]), (2, [6]), (3, [1, 2, 3, 6]), (4, [1, 2, 3, 6, 8]), (5, [1, 2, 3, 6, 8, 9]), (6, [1, 2, 3, 6, 8, 9, 10]), (7, [1, 2, 6, 8, 10]), (8, [6]), (9, [2, 6, 8, 10]), (10, [6, 8]), (11, [1, 2, 3, 6, 8, 9]), (12, [1, 2, 3, 6, 8, 9, 11]), (13, [1, 2, 3, 6, 8, 9, 11]), (14, [1, 2, 3, 6, 8, 9, 11, 12, 13]), (15, [6]), (16, [1, 2, 3, 6, 8, 9, 11, 12]), (17, [1, 2, 3, 6, 8, 9]), (18, [1, 2, 3, 6, 8, 9, 14]), (19, [1, 2, 3, 6, 8, 9, 14]), (20, [1, 2, 6, 8, 14]), (21, [6, 8])], dp := look2 [(12, [[], [0], [], [2], [0, 1, 2, 3], [], [5], [0, 1, 2, 3, 4, 5, 6], [0, 1, 2, 3, 4, 5, 6, 7], [0, 1, 2, 3, 4, 5, 6, 7, 8], [0, 1, 2, 3, 4, 5, 6, 7, 8, 9], [0, 1, 2, 3, 4, 5, 6, 7, 8, 9, 10], [0, 1, 2, 3, 4, 5, 6, 7, 8, 9, 10, 11], [0, 1, 2, 3, 4, 5, 6, 7, 8, 9, 10, 11, 12]]), (18, [[], [], [1], [1, 2], [0, 1, 2, 3], [0, 1, 2, 3, 4], [0, 1, 2, 3, 4, 5], [0, 1, 2, 3, 4, 5, 6], [0, 1, 2, 3, 4, 5], [0, 1, 2, 3, 4, 5, 6, 7, 8], [0, 1, 2, 3, 4, 5, 6, 7, 8, 9], [0, 1, 2, 3, 4, 5, 6, 7, 8, 9, 10], [0, 1, 2, 3, 4, 5], [0, 1, 2, 3, 4, 5, 12], [0, 1, 2, 3, 4, 5, 6, 7, 8, 9, 10, 11, 12, 13], [0, 1, 2, 3, 4, 5], [0, 1, 2, 3, 4, 5, 6, 7, 8, 9, 10, 11, 12, 13, 14, 15], [0, 1, 2, 3, 4, 5, 6, 7, 8, 9, 10, 11, 12, 13, 14, 15, 16]]), (20, [[], [], [1], [], [1, 2, 3], [0, 1, 2, 3, 4], [], [], [6, 7], [6, 7, 8], [0, 1, 2, 3, 4, 5, 6, 7, 8, 9], [], [11], [], [11, 12, 13], [0, 1, 2, 3, 4, 5, 6, 7, 8, 9, 10, 11, 12, 13, 14], [0, 1, 2, 3, 4, 5, 6, 7, 8, 9, 10, 11, 12, 13, 14, 15], [0, 1, 2, 3, 4, 5, 6, 7, 8, 9, 10, 11, 12, 13, 14, 15, 16]])], md := look3 [(13, 2, [2, 0])] }
attribute [local push_cast] E14
set_option maxRecDepth 20000 in
set_option maxHeartbeats 4000000 in
theorem specPut (s : Store) (t : Str) (now : Int) (hs : okStore s) (ht : t.size ≤ 2097152) : Does Tryz.prog 14 [.ag (storeC false s), .sc (.string t), .sc (.int .i64 now)] (.tu [.ag (storeC true (putF s t now).1), .sc (.int .i64 (putF s t now).2)], []) := by
  refine does_of (E := E14) (rs := [.cell 6 26, .tmp 7]) (lent := []) tOk rfl Tryz.func14 rfl (by decide) rfl rfl (Nat.le_of_ble_eq_true rfl) (Nat.le_of_ble_eq_true rfl) ?_
  obtain ⟨M, hM⟩ : ∃ M, M = putF s t now := ⟨_, rfl⟩
  rw [← hM]
  unfold putF at hM
  (simp -dsimp (disch := first | omega | (simp only [LR] <;> omega) | fail) only [push_cast, simprocAttr, -Nat.reduceSubDiff]) <;> (repeat (refine (aw_draw (by kernel_rfl)).2 ?_; simp -dsimp (disch := first | omega | (simp only [LR] <;> omega) | fail) only [push_cast, simprocAttr, -Nat.reduceSubDiff]))
  refine callC (specValidStore s hs) ?_
  cases hv : validSt s with
  | false =>
    rw [hv, Bool.false_and, Bool.false_and, if_pos rfl] at hM
    subst hM
    (simp -dsimp (disch := first | omega | (simp only [LR] <;> omega) | fail) only [push_cast, simprocAttr, -Nat.reduceSubDiff]) <;> (repeat (refine (aw_draw (by kernel_rfl)).2 ?_; simp -dsimp (disch := first | omega | (simp only [LR] <;> omega) | fail) only [push_cast, simprocAttr, -Nat.reduceSubDiff]))
    rfl
  | true =>
  (simp -dsimp (disch := first | omega | (simp only [LR] <;> omega) | fail) only [push_cast, simprocAttr, -Nat.reduceSubDiff]) <;> (repeat (refine (aw_draw (by kernel_rfl)).2 ?_; simp -dsimp (disch := first | omega | (simp only [LR] <;> omega) | fail) only [push_cast, simprocAttr, -Nat.reduceSubDiff]))
  refine callC (l1In ..) ?_
  cases hz : inB t.size 1 7000 with
  | false =>
    rw [hz, Bool.and_false, Bool.false_and, if_pos rfl] at hM
    subst hM
    (simp -dsimp (disch := first | omega | (simp only [LR] <;> omega) | fail) only [push_cast, simprocAttr, -Nat.reduceSubDiff]) <;> (repeat (refine (aw_draw (by kernel_rfl)).2 ?_; simp -dsimp (disch := first | omega | (simp only [LR] <;> omega) | fail) only [push_cast, simprocAttr, -Nat.reduceSubDiff]))
    rfl
  | true =>
  (simp -dsimp (disch := first | omega | (simp only [LR] <;> omega) | fail) only [push_cast, simprocAttr, -Nat.reduceSubDiff]) <;> (repeat (refine (aw_draw (by kernel_rfl)).2 ?_; simp -dsimp (disch := first | omega | (simp only [LR] <;> omega) | fail) only [push_cast, simprocAttr, -Nat.reduceSubDiff]))
  refine callC (l1In ..) ?_
  cases hn : inB now 0 1000000 with
  | false =>
    rw [hn, Bool.and_false, if_pos rfl] at hM
    subst hM
    (simp -dsimp (disch := first | omega | (simp only [LR] <;> omega) | fail) only [push_cast, simprocAttr, -Nat.reduceSubDiff]) <;> (repeat (refine (aw_draw (by kernel_rfl)).2 ?_; simp -dsimp (disch := first | omega | (simp only [LR] <;> omega) | fail) only [push_cast, simprocAttr, -Nat.reduceSubDiff]))
    rfl
  | true =>
  rw [if_neg (by rw [hv, hz, hn]; simp)] at hM
  have hP := valid_P hv
  (simp -dsimp (disch := first | omega | (simp only [LR] <;> omega) | fail) only [push_cast, simprocAttr, -Nat.reduceSubDiff]) <;> (repeat (refine (aw_draw (by kernel_rfl)).2 ?_; simp -dsimp (disch := first | omega | (simp only [LR] <;> omega) | fail) only [push_cast, simprocAttr, -Nat.reduceSubDiff]))
  refine callC (l4Copy s hs) ?_
  (simp -dsimp (disch := first | omega | (simp only [LR] <;> omega) | fail) only [push_cast, simprocAttr, -Nat.reduceSubDiff]) <;> (repeat (refine (aw_draw (by kernel_rfl)).2 ?_; simp -dsimp (disch := first | omega | (simp only [LR] <;> omega) | fail) only [push_cast, simprocAttr, -Nat.reduceSubDiff]))
  refine callC (specSum t s.w (by omega)) ?_
  obtain ⟨u, hu⟩ : ∃ u, u = sumS t s.w := ⟨_, rfl⟩
  rw [← hu] at hM ⊢
  (simp -dsimp (disch := first | omega | (simp only [LR] <;> omega) | fail) only [push_cast, simprocAttr, -Nat.reduceSubDiff]) <;> (repeat (refine (aw_draw (by kernel_rfl)).2 ?_; simp -dsimp (disch := first | omega | (simp only [LR] <;> omega) | fail) only [push_cast, simprocAttr, -Nat.reduceSubDiff]))
  refine callC (l4At s u hs) ?_
  by_cases hat : 0 ≤ atI s.w u s.I
  · rw [if_pos hat] at hM
    obtain ⟨i, x, h1, h2, _⟩ := at_get hat
    have hil := (List.getElem?_eq_some_iff.1 h2).1
    rw [textAt_some h1 h2, h1, Int.toNat_natCast] at hM
    rw [h1]
    by_cases he : x.t = t
    · rw [if_pos he] at hM
      subst hM
      (simp -dsimp (disch := first | omega | (simp only [h2, he, set_item, LR] <;> omega) | fail) only [push_cast, h2, he, set_item, simprocAttr, -Nat.reduceSubDiff]) <;> (repeat (refine (aw_draw (by kernel_rfl)).2 ?_; simp -dsimp (disch := first | omega | (simp only [h2, he, set_item, LR] <;> omega) | fail) only [push_cast, h2, he, set_item, simprocAttr, -Nat.reduceSubDiff]))
    · rw [if_neg he] at hM
      subst hM
      (simp -dsimp (disch := first | omega | (simp only [h2, he, LR] <;> omega) | fail) only [push_cast, h2, he, simprocAttr, -Nat.reduceSubDiff]) <;> (repeat (refine (aw_draw (by kernel_rfl)).2 ?_; simp -dsimp (disch := first | omega | (simp only [h2, he, LR] <;> omega) | fail) only [push_cast, h2, he, simprocAttr, -Nat.reduceSubDiff]))
      rfl
  rw [if_neg hat] at hM
  (simp -dsimp (disch := first | omega | (simp only [hat, LR] <;> omega) | fail) only [push_cast, hat, simprocAttr, -Nat.reduceSubDiff]) <;> (repeat (refine (aw_draw (by kernel_rfl)).2 ?_; simp -dsimp (disch := first | omega | (simp only [hat, LR] <;> omega) | fail) only [push_cast, hat, simprocAttr, -Nat.reduceSubDiff]))
  refine callC (l4Needed s hs hP) ?_
  have hNl := needL_len hP
  rw [show (nmsL s).foldl addS [] = needL s from rfl]
  generalize needL s = N at hM hNl ⊢
  (simp -dsimp (disch := first | omega | (simp only [LR] <;> omega) | fail) only [push_cast, simprocAttr, -Nat.reduceSubDiff]) <;> (repeat (refine (aw_draw (by kernel_rfl)).2 ?_; simp -dsimp (disch := first | omega | (simp only [LR] <;> omega) | fail) only [push_cast, simprocAttr, -Nat.reduceSubDiff]))
  obtain ⟨E, hE⟩ : ∃ E, E = evF s.w s.r N t.size s.I := ⟨_, rfl⟩
  rw [← hE] at hM
  refine loop_ind (α := List Item) (fun J => okL okItem J ∧ evF s.w s.r N t.size J = E)
    (fun J => ⟨[(1, .sc (.string t)), (2, .sc (.int .i64 now)), (3, .pt 1 0 0), (6, .pt 2 0 0), (8, .pt 5 0 0), (9, .sc (.string u)), (11, .ow 8 0 N.length)],
      [(1, .bx (storeC false s)), (2, .bx [.sc (.int .i64 0), .sc (.int .i64 0), .ow 3 0 0, .ow 4 0 0]), (3, .ar 2 0 []), (4, .ar 1 0 []), (5, .bx [.sc (.int .i64 s.w), .sc (.int .i64 s.r), .ow 6 0 J.length, .ow 7 0 s.P.length]), (6, .ar 2 0 (J.map (itemC true))), (7, .ar 1 0 (s.P.map strR)), (8, .ar 1 0 (N.map strR))], 9⟩) (fun J => J.length) s.I ⟨hs.1, hE.symm⟩ ?_ ?_
  · simp -dsimp (disch := first | omega | (simp only [LR] <;> omega) | fail) only [push_cast, simprocAttr, -Nat.reduceSubDiff]
  rintro J ⟨hJ, hEJ⟩ ih
  have hsJ : okStore { s with I := J } := ⟨hJ, hs.2⟩
  have hJl := hJ.1
  have hb := bytes_le hJ
  have hb0 := bytes_nn J
  have hby := l4Bytes { s with I := J } hsJ
  have haw := l4Away { s with I := J } N hsJ (by omega)
  simp only at hby
  unfold awayF at haw
  simp only at haw
  rw [evF] at hEJ
  by_cases hc : s.r < bytes J + t.size ∨ 1000 ≤ J.length
  · rw [if_pos hc] at hEJ
    have hr := best_rng s.w N J J.length
    obtain ⟨B, hB⟩ : ∃ B, B = bestF s.w N J J.length := ⟨_, rfl⟩
    rw [← hB] at hEJ hr haw
    have two : (s.r < bytes J + t.size ∧ s.r < bytes J + t.size) ∨ (¬ s.r < bytes J + t.size ∧ 1000 ≤ J.length) := by omega
    rcases two with ⟨h1, h2⟩ | ⟨h1, h2⟩
    all_goals
      (simp -dsimp (disch := first | omega | (simp only [wr_id, LR] <;> omega) | fail) only [push_cast, wr_id, simprocAttr, -Nat.reduceSubDiff]) <;> (repeat (refine (aw_draw (by kernel_rfl)).2 ?_; simp -dsimp (disch := first | omega | (simp only [wr_id, LR] <;> omega) | fail) only [push_cast, wr_id, simprocAttr, -Nat.reduceSubDiff]))
      refine callC hby ?_
      (simp -dsimp (disch := first | omega | (simp only [wr_id, LR] <;> omega) | fail) only [push_cast, wr_id, simprocAttr, -Nat.reduceSubDiff]) <;> (repeat (refine (aw_draw (by kernel_rfl)).2 ?_; simp -dsimp (disch := first | omega | (simp only [wr_id, LR] <;> omega) | fail) only [push_cast, wr_id, simprocAttr, -Nat.reduceSubDiff]))
      refine callC haw ?_
      by_cases hB0 : B < 0
      · rw [if_neg (by omega)] at hEJ
        rw [← hEJ] at hM
        rw [if_pos hB0]
        subst hM
        (simp -dsimp (disch := first | omega | (simp only [LR] <;> omega) | fail) only [push_cast, simprocAttr, -Nat.reduceSubDiff]) <;> (repeat (refine (aw_draw (by kernel_rfl)).2 ?_; simp -dsimp (disch := first | omega | (simp only [LR] <;> omega) | fail) only [push_cast, simprocAttr, -Nat.reduceSubDiff]))
        rfl
      · rw [if_pos (by omega)] at hEJ
        rw [if_neg hB0]
        have hrl := rmAt_len (l := J) (i := B.toNat) (by omega)
        (simp -dsimp (disch := first | omega | (simp only [LR] <;> omega) | fail) only [push_cast, simprocAttr, -Nat.reduceSubDiff]) <;> (repeat (refine (aw_draw (by kernel_rfl)).2 ?_; simp -dsimp (disch := first | omega | (simp only [LR] <;> omega) | fail) only [push_cast, simprocAttr, -Nat.reduceSubDiff]))
        refine ih (rmAt J B.toNat) _ (by omega) ⟨⟨by omega, fun a ha => hJ.2 a (by unfold rmAt at ha; rcases List.mem_append.1 ha with q | q; exact List.mem_of_mem_take q; exact List.mem_of_mem_drop q)⟩, hEJ⟩ ?_
        simp -dsimp (disch := first | omega | (simp only [LR] <;> omega) | fail) only [push_cast, simprocAttr, -Nat.reduceSubDiff]
  · rw [if_neg hc] at hEJ
    rw [← hEJ] at hM
    simp only at hM
    have h1 : ¬ s.r < bytes J + t.size := by omega
    have h2 : ¬ 1000 ≤ J.length := by omega
    clear ih hEJ hE haw
    (simp -dsimp (disch := first | omega | (simp only [wr_id, LR] <;> omega) | fail) only [push_cast, wr_id, simprocAttr, -Nat.reduceSubDiff]) <;> (repeat (refine (aw_draw (by kernel_rfl)).2 ?_; simp -dsimp (disch := first | omega | (simp only [wr_id, LR] <;> omega) | fail) only [push_cast, wr_id, simprocAttr, -Nat.reduceSubDiff]))
    refine callC hby ?_
    (simp -dsimp (disch := first | omega | (simp only [wr_id, LR] <;> omega) | fail) only [push_cast, wr_id, simprocAttr, -Nat.reduceSubDiff]) <;> (repeat (refine (aw_draw (by kernel_rfl)).2 ?_; simp -dsimp (disch := first | omega | (simp only [wr_id, LR] <;> omega) | fail) only [push_cast, wr_id, simprocAttr, -Nat.reduceSubDiff]))
    have hkr := rk_le (sumsI s.w J) u
    have hsl : (sumsI s.w J).length = J.length := by unfold sumsI; rw [List.length_map]
    obtain ⟨r, hr⟩ : ∃ r, r = rk (sumsI s.w J) u := ⟨_, rfl⟩
    refine loop_ind (α := Nat) (fun k => k ≤ rk (sumsI s.w J) u)
      (fun k => ⟨[(1, .sc (.string t)), (2, .sc (.int .i64 now)), (3, .pt 1 0 0), (6, .pt 2 0 0), (8, .pt 5 0 0), (9, .sc (.string u)), (14, .sc (.int .i64 k))],
        [(1, .bx (storeC false s)), (2, .bx [.sc (.int .i64 0), .sc (.int .i64 0), .ow 3 0 0, .ow 4 0 0]), (3, .ar 2 0 []), (4, .ar 1 0 []), (5, .bx [.sc (.int .i64 s.w), .sc (.int .i64 s.r), .ow 6 0 J.length, .ow 7 0 s.P.length]), (6, .ar 2 0 (J.map (itemC true))), (7, .ar 1 0 (s.P.map strR))], 8⟩) (fun k => J.length - k) 0 (Nat.zero_le _) ?_ ?_
    · simp -dsimp (disch := first | omega | (simp only [LR] <;> omega) | fail) only [push_cast, simprocAttr, -Nat.reduceSubDiff]
    intro k hk ih
    have fin : k = rk (sumsI s.w J) u → M = ({ s with I := insAt J k ⟨t, now⟩ }, 0) := fun q => by rw [hM, ← q]
    have e1 : J.length = k + (J.length - k) := by omega
    by_cases h : k < J.length
    · obtain ⟨x, hx⟩ := ex_get h
      have hxt : x.t.size ≤ 2097152 := hJ.2 x (List.mem_of_getElem? hx)
      have hxs : (sumsI s.w J)[k]? = some (sumS x.t s.w) := by unfold sumsI; rw [List.getElem?_map, hx]; rfl
      (simp -dsimp (disch := first | omega | (simp only [h, hx, LR] <;> omega) | fail) only [push_cast, h, hx, simprocAttr, -Nat.reduceSubDiff]) <;> (repeat (refine (aw_draw (by kernel_rfl)).2 ?_; simp -dsimp (disch := first | omega | (simp only [h, hx, LR] <;> omega) | fail) only [push_cast, h, hx, simprocAttr, -Nat.reduceSubDiff]))
      refine callC (specSum x.t s.w (by omega)) ?_
      cases e : lts (sumS x.t s.w) u with
      | true =>
        have := rk_step hk hxs e
        (simp -dsimp (disch := first | omega | (simp only [h, hx, e, LR] <;> omega) | fail) only [push_cast, h, hx, e, simprocAttr, -Nat.reduceSubDiff]) <;> (repeat (refine (aw_draw (by kernel_rfl)).2 ?_; simp -dsimp (disch := first | omega | (simp only [h, hx, e, LR] <;> omega) | fail) only [push_cast, h, hx, e, simprocAttr, -Nat.reduceSubDiff]))
        refine ih (k + 1) _ (by omega) this ?_
        simp -dsimp (disch := first | omega | (simp only [wr_id, LR] <;> omega) | fail) only [push_cast, wr_id, simprocAttr, -Nat.reduceSubDiff]
      | false =>
        have hkk : k = rk (sumsI s.w J) u := by
          rcases Nat.lt_or_eq_of_le hk with q | q
          · obtain ⟨y, hy, hy2⟩ := rk_all q
            rw [hxs] at hy; cases hy; rw [e] at hy2; cases hy2
          · exact q
        have hM := fin hkk
        subst hM
        (simp -dsimp (disch := first | omega | (simp only [h, hx, e, seg_tk, seg_dr, insAt, List.map_append, List.map_cons, LR] <;> omega) | fail) only [push_cast, h, hx, e, seg_tk, seg_dr, insAt, List.map_append, List.map_cons, simprocAttr, -Nat.reduceSubDiff]) <;> (repeat (refine (aw_draw (by kernel_rfl)).2 ?_; simp -dsimp (disch := first | omega | (simp only [h, hx, e, seg_tk, seg_dr, insAt, List.map_append, List.map_cons, LR] <;> omega) | fail) only [push_cast, h, hx, e, seg_tk, seg_dr, insAt, List.map_append, List.map_cons, simprocAttr, -Nat.reduceSubDiff]))
        simp only [List.append_assoc, List.cons_append, List.nil_append]
    · have hkk : k = rk (sumsI s.w J) u := by omega
      have hM := fin hkk
      subst hM
      have tk : J.take k = J := List.take_of_length_le (by omega)
      (simp -dsimp (disch := first | omega | (simp only [h, tk, seg_tk, seg_dr, insAt, List.map_append, List.map_cons, LR] <;> omega) | fail) only [push_cast, h, tk, seg_tk, seg_dr, insAt, List.map_append, List.map_cons, simprocAttr, -Nat.reduceSubDiff]) <;> (repeat (refine (aw_draw (by kernel_rfl)).2 ?_; simp -dsimp (disch := first | omega | (simp only [h, tk, seg_tk, seg_dr, insAt, List.map_append, List.map_cons, LR] <;> omega) | fail) only [push_cast, h, tk, seg_tk, seg_dr, insAt, List.map_append, List.map_cons, simprocAttr, -Nat.reduceSubDiff]))
      simp only [List.append_assoc, List.cons_append, List.nil_append]
end Go.Proofs.YtkkmgjhfjhcdmaaGreatDoor.Mx

/- Names that a store needs: the program. -/
namespace Go.Proofs.YtkkmgjhfjhcdmaaGreatDoor.Mx
set_option linter.all false
open Go Go.RowKit Go.Proofs
set_option linter.unusedSimpArgs false
theorem mok_pT (l : List Str) : mok (l.map pT) = true := by
  unfold mok
  rw [List.all_eq_true]
  intro e he
  obtain ⟨s, _, rfl⟩ := List.mem_map.1 he
  rfl
theorem insL_app (I L M : List Str) : insL I (L ++ M) = insL (insL I L) M := by unfold insL; rw [List.foldl_append]
theorem nms_none {s : Store} {p : Str} (h : (listF s p).2 = false) : nmsF s p = [p] := by unfold nmsF; rw [list_false h]
def E58 : Env := { T := T0, kp := look [(0, [0]), (1, [1]), (2, [1, 3]), (3, [1, 3, 15, 16, 17]), (4, [1, 3, 15, 16, 17]), (5, [1, 3, 5, 15, 16, 17]), (6, [1, 3, 5, 15, 16, 17]), (7, [1, 3, 6, 15, 16, 17]), (8, [1, 3, 6, 15, 16, 17]), (9, [1, 3, 7, 8, 15, 16, 17]), (10, [1, 3, 7, 15, 16, 17]), (11, [1, 3, 15, 16, 17, 42, 43, 44]), (12, [1, 3, 15, 16, 17, 42, 43, 44]), (13, [1, 3, 10, 15, 16, 17, 42, 43, 44]), (14, [1, 3, 15, 16, 17, 42, 43, 44]), (15, [1, 3, 15, 16, 17]), (16, [3]), (17, [3, 11]), (18, [11, 53]), (19, [11, 53]), (20, [11, 12, 53]), (21, [11]), (22, [11])], dp := look2 [(8, [[], [0], [], [0, 1, 2], [0, 1, 2, 3], [0, 1, 2, 3, 4], [], [6], [0, 1, 2, 3, 4, 5, 6, 7], [0, 1, 2, 3, 4, 5, 6, 7, 8], [0, 1, 2, 3, 4, 5, 6, 7, 8, 9], [0, 1, 2, 3, 4, 5, 6, 7, 8, 9], [], [0, 1, 2, 3, 4, 5, 6, 7, 8, 9, 10, 12], [0, 1, 2, 3, 4, 5, 6, 7, 8, 9, 10, 11, 12, 13]])], md := look3 [(21, 1, [1])] }
attribute [local push_cast] E58
set_option maxRecDepth 20000 in
set_option maxHeartbeats 1000000 in
theorem implNeeded0 (s : Store) (hs : okStore s) (hP : s.P.length ≤ 10) : Does Tryz.prog 58 [.ag (storeC false s)] (.sl true 1 (((nmsL s).foldl addS []).map strR), []) := by
  refine does_of (E := E58) (rs := [.tmp 2]) (lent := []) tOk rfl Tryz.func58 rfl (by decide) rfl rfl (Nat.le_of_ble_eq_true rfl) (Nat.le_of_ble_eq_true rfl) ?_
  rw [← srt_ins]
  (simp -dsimp (disch := first | omega | (simp only [LR] <;> omega) | fail) only [push_cast, simprocAttr, -Nat.reduceSubDiff]) <;> (repeat (refine (aw_draw (by kernel_rfl)).2 ?_; simp -dsimp (disch := first | omega | (simp only [LR] <;> omega) | fail) only [push_cast, simprocAttr, -Nat.reduceSubDiff]))
  refine loop_ind (α := Nat) (fun i => i ≤ s.P.length)
    (fun i => ⟨[(1, .pt 1 0 0), (3, .mv 2), (15, .sl false 1 (s.P.map strR)), (16, .sc (.int .i64 s.P.length)), (17, .sc (.int .i64 i))], [(1, .bx (storeC false s)), (2, .mp 0 ((insL [] ((s.P.take i).flatMap (nmsF s))).map pT))], 3⟩) (fun i => s.P.length - i) 0 (Nat.zero_le _) ?_ ?_
  · simp -dsimp (disch := first | omega | (simp only [List.take_zero, List.flatMap_nil, insL, List.foldl_nil, List.map_nil, LR] <;> omega) | fail) only [push_cast, List.take_zero, List.flatMap_nil, insL, List.foldl_nil, List.map_nil, simprocAttr, -Nat.reduceSubDiff]
  intro i hi ih
  by_cases h : i < s.P.length
  · obtain ⟨p, hp⟩ := ex_get h
    have hst := nms_step hp
    obtain ⟨I, hI⟩ : ∃ I, I = insL [] ((s.P.take i).flatMap (nmsF s)) := ⟨_, rfl⟩
    have hnx : insL [] ((s.P.take (i + 1)).flatMap (nmsF s)) = insL I (nmsF s p) := by rw [hst, insL_app, ← hI]
    rw [← hI]
    have hk := mok_kok (mok_pT I)
    have hks := kset_ins I p
    (simp -dsimp (disch := first | omega | (simp only [h, hp, pMapSet, hk.1, kkey, hks, LR] <;> omega) | fail) only [push_cast, h, hp, pMapSet, hk.1, kkey, hks, simprocAttr, -Nat.reduceSubDiff]) <;> (repeat (refine (aw_draw (by kernel_rfl)).2 ?_; simp -dsimp (disch := first | omega | (simp only [h, hp, pMapSet, hk.1, kkey, hks, LR] <;> omega) | fail) only [push_cast, h, hp, pMapSet, hk.1, kkey, hks, simprocAttr, -Nat.reduceSubDiff]))
    refine callC (find s p hs) ?_
    by_cases hat : atI s.w p s.I < 0
    · have hf : (listF s p).2 = false := by unfold listF; rw [if_pos hat]
      rw [nms_none hf] at hnx
      have hg : ¬ 0 ≤ atI s.w p s.I := by omega
      (simp -dsimp (disch := first | omega | (simp only [hg, LR] <;> omega) | fail) only [push_cast, hg, simprocAttr, -Nat.reduceSubDiff]) <;> (repeat (refine (aw_draw (by kernel_rfl)).2 ?_; simp -dsimp (disch := first | omega | (simp only [hg, LR] <;> omega) | fail) only [push_cast, hg, simprocAttr, -Nat.reduceSubDiff]))
      refine ih (i + 1) _ (by omega) h ?_
      rw [hnx]
      simp -dsimp (disch := first | omega | (simp only [wr_id, insL, List.foldl_cons, List.foldl_nil, LR] <;> omega) | fail) only [push_cast, wr_id, insL, List.foldl_cons, List.foldl_nil, simprocAttr, -Nat.reduceSubDiff]
    obtain ⟨i0, x0, h1, h2, _⟩ := at_get (w := s.w) (n := p) (I := s.I) (by omega)
    have hxt : x0.t.size ≤ 2097152 := hs.1.2 x0 (List.mem_of_getElem? h2)
    have hil := (List.getElem?_eq_some_iff.1 h2).1
    have hf : listF s p = readL x0.t s.w := by
      unfold listF
      rw [if_neg hat, h1, Int.toNat_natCast, h2]
    rw [h1]
    (simp -dsimp (disch := first | omega | (simp only [h2, LR] <;> omega) | fail) only [push_cast, h2, simprocAttr, -Nat.reduceSubDiff]) <;> (repeat (refine (aw_draw (by kernel_rfl)).2 ?_; simp -dsimp (disch := first | omega | (simp only [h2, LR] <;> omega) | fail) only [push_cast, h2, simprocAttr, -Nat.reduceSubDiff]))
    refine callC (implReadList x0.t s.w (by omega)) ?_
    rw [← hf]
    have hlo := list_ok (s := s) (n := p)
    have hnn := nms_none (s := s) (p := p)
    rw [show nmsF s p = p :: (listF s p).1.S from rfl] at hnx hnn
    generalize listF s p = R at *
    obtain ⟨l, b⟩ := R
    simp only at hlo hnx hnn ⊢
    have hl := hlo.1
    cases b with
    | false =>
      rw [hnn rfl] at hnx
      (simp -dsimp (disch := first | omega | (simp only [LR] <;> omega) | fail) only [push_cast, simprocAttr, -Nat.reduceSubDiff]) <;> (repeat (refine (aw_draw (by kernel_rfl)).2 ?_; simp -dsimp (disch := first | omega | (simp only [LR] <;> omega) | fail) only [push_cast, simprocAttr, -Nat.reduceSubDiff]))
      refine ih (i + 1) _ (by omega) h ?_
      rw [hnx]
      simp -dsimp (disch := first | omega | (simp only [wr_id, insL, List.foldl_cons, List.foldl_nil, LR] <;> omega) | fail) only [push_cast, wr_id, insL, List.foldl_cons, List.foldl_nil, simprocAttr, -Nat.reduceSubDiff]
    | true =>
    (simp -dsimp (disch := first | omega | (simp only [LR] <;> omega) | fail) only [push_cast, simprocAttr, -Nat.reduceSubDiff]) <;> (repeat (refine (aw_draw (by kernel_rfl)).2 ?_; simp -dsimp (disch := first | omega | (simp only [LR] <;> omega) | fail) only [push_cast, simprocAttr, -Nat.reduceSubDiff]))
    refine loop_ind (α := Nat) (fun j => j ≤ l.S.length)
      (fun j => ⟨[(1, .pt 1 0 0), (3, .mv 2), (15, .sl false 1 (s.P.map strR)), (16, .sc (.int .i64 s.P.length)), (17, .sc (.int .i64 i)), (42, .ow 3 0 l.S.length), (43, .sc (.int .i64 l.S.length)), (44, .sc (.int .i64 j))], [(1, .bx (storeC false s)), (2, .mp 0 ((insL (ins I p) (l.S.take j)).map pT)), (3, .ar 1 0 (l.S.map strR))], 4⟩) (fun j => l.S.length - j) 0 (Nat.zero_le _) ?_ ?_
    · simp -dsimp (disch := first | omega | (simp only [List.take_zero, insL, List.foldl_nil, LR] <;> omega) | fail) only [push_cast, List.take_zero, insL, List.foldl_nil, simprocAttr, -Nat.reduceSubDiff]
    intro j hj ih2
    by_cases h3 : j < l.S.length
    · obtain ⟨x, hx⟩ := ex_get h3
      have hst2 : insL (ins I p) (l.S.take (j + 1)) = ins (insL (ins I p) (l.S.take j)) x := by rw [take_step hx, insL_app]; rfl
      generalize insL (ins I p) (l.S.take j) = J at *
      have hk := mok_kok (mok_pT J)
      have hks := kset_ins J x
      (simp -dsimp (disch := first | omega | (simp only [h3, hx, pMapSet, hk.1, kkey, hks, LR] <;> omega) | fail) only [push_cast, h3, hx, pMapSet, hk.1, kkey, hks, simprocAttr, -Nat.reduceSubDiff]) <;> (repeat (refine (aw_draw (by kernel_rfl)).2 ?_; simp -dsimp (disch := first | omega | (simp only [h3, hx, pMapSet, hk.1, kkey, hks, LR] <;> omega) | fail) only [push_cast, h3, hx, pMapSet, hk.1, kkey, hks, simprocAttr, -Nat.reduceSubDiff]))
      refine ih2 (j + 1) _ (by omega) h3 ?_
      rw [hst2]
      simp -dsimp (disch := first | omega | (simp only [wr_id, LR] <;> omega) | fail) only [push_cast, wr_id, simprocAttr, -Nat.reduceSubDiff]
    · have e : l.S.take j = l.S := List.take_of_length_le (by omega)
      rw [e]
      (simp -dsimp (disch := first | omega | (simp only [h3, LR] <;> omega) | fail) only [push_cast, h3, simprocAttr, -Nat.reduceSubDiff]) <;> (repeat (refine (aw_draw (by kernel_rfl)).2 ?_; simp -dsimp (disch := first | omega | (simp only [h3, LR] <;> omega) | fail) only [push_cast, h3, simprocAttr, -Nat.reduceSubDiff]))
      refine ih (i + 1) _ (by omega) h ?_
      rw [hnx]
      simp -dsimp (disch := first | omega | (simp only [wr_id, insL, List.foldl_cons, LR] <;> omega) | fail) only [push_cast, wr_id, insL, List.foldl_cons, simprocAttr, -Nat.reduceSubDiff]
  have e : s.P.take i = s.P := List.take_of_length_le (by omega)
  rw [e, show s.P.flatMap (nmsF s) = nmsL s from rfl]
  have hll : (insL [] (nmsL s)).length ≤ 3760 := by
    have h1 := nodup_len (insL_nodup List.nodup_nil (nmsL s)) (m := nmsL s) (fun x hx => by
      rcases insL_mem.1 hx with q | q
      · cases q
      · exact q)
    have h2 := nms_len s s.P
    unfold nmsL at h1 ⊢
    omega
  clear ih
  generalize insL [] (nmsL s) = l at *
  (simp -dsimp (disch := first | omega | (simp only [h, LR] <;> omega) | fail) only [push_cast, h, simprocAttr, -Nat.reduceSubDiff]) <;> (repeat (refine (aw_draw (by kernel_rfl)).2 ?_; simp -dsimp (disch := first | omega | (simp only [h, LR] <;> omega) | fail) only [push_cast, h, simprocAttr, -Nat.reduceSubDiff]))
  rw [rgk_mv (h := by rfl)]
  simp -dsimp (disch := first | omega | (simp only [LR] <;> omega) | fail) only [push_cast, simprocAttr, -Nat.reduceSubDiff]
  refine loop_ind (α := List Str × List Str × Option (Value × Value)) (fun p => (p.1 ++ p.2.1).Perm l) (fun p => ⟨[(11, .ow 1 0 p.1.length), (53, .pt 2 0 0)], [(1, .ar 1 0 (p.1.map strR)), (2, .im (p.2.1.map pT) p.2.2)], 3⟩) (fun p => p.2.1.length) ([], l, none) (List.Perm.refl _) ?_ ?_
  · simp -dsimp (disch := first | omega | (simp only [LR] <;> omega) | fail) only [push_cast, simprocAttr, -Nat.reduceSubDiff]
  rintro ⟨acc, rem, last⟩ hp ih
  (simp -dsimp (disch := first | omega | (simp only [LR] <;> omega) | fail) only [push_cast, simprocAttr, -Nat.reduceSubDiff]) <;> (repeat (refine (aw_draw (by kernel_rfl)).2 ?_; simp -dsimp (disch := first | omega | (simp only [LR] <;> omega) | fail) only [push_cast, simprocAttr, -Nat.reduceSubDiff]))
  refine next_im (pT_plain rem) (fun h0 => ?_) (fun kv r' hpm => ?_)
  · have h0 : rem = [] := by simpa using h0
    subst h0
    simp only [List.append_nil] at hp
    have hlen : acc.length ≤ 2097152 := by rw [hp.length_eq]; omega
    (simp -dsimp (disch := first | omega | (simp only [LR] <;> omega) | fail) only [push_cast, simprocAttr, -Nat.reduceSubDiff]) <;> (repeat (refine (aw_draw (by kernel_rfl)).2 ?_; simp -dsimp (disch := first | omega | (simp only [LR] <;> omega) | fail) only [push_cast, simprocAttr, -Nat.reduceSubDiff]))
    refine callC_eq (doesSort acc (by omega)) ?_ ?_
    · simp -dsimp (disch := first | omega | (simp only [LR] <;> omega) | fail) only [push_cast, simprocAttr, -Nat.reduceSubDiff]
    · (simp -dsimp (disch := first | omega | (simp only [srt_perm hp, LR] <;> omega) | fail) only [push_cast, srt_perm hp, simprocAttr, -Nat.reduceSubDiff]) <;> (repeat (refine (aw_draw (by kernel_rfl)).2 ?_; simp -dsimp (disch := first | omega | (simp only [srt_perm hp, LR] <;> omega) | fail) only [push_cast, srt_perm hp, simprocAttr, -Nat.reduceSubDiff]))
      rw [seg_full (by rw [List.length_map, srt_len, hp.length_eq]; exact Nat.le_refl _)]
  · obtain ⟨s, q, rfl, rfl, hq⟩ := map_pT_perm hpm
    have hp2 : (acc ++ [s] ++ q).Perm l := by
      rw [List.append_assoc]
      exact ((List.Perm.refl acc).append hq.symm).trans hp
    have hlen := hp2.length_eq
    simp only [List.length_append, List.length_cons, List.length_nil] at hlen
    (simp -dsimp (disch := first | omega | (simp only [enb_im _ _ (show (plain (pT s).1 && plain (pT s).2) = true from rfl), LR] <;> omega) | fail) only [push_cast, enb_im _ _ (show (plain (pT s).1 && plain (pT s).2) = true from rfl), simprocAttr, -Nat.reduceSubDiff]) <;> (repeat (refine (aw_draw (by kernel_rfl)).2 ?_; simp -dsimp (disch := first | omega | (simp only [enb_im _ _ (show (plain (pT s).1 && plain (pT s).2) = true from rfl), LR] <;> omega) | fail) only [push_cast, enb_im _ _ (show (plain (pT s).1 && plain (pT s).2) = true from rfl), simprocAttr, -Nat.reduceSubDiff]))
    refine ih (acc ++ [s], q, some (pT s)) _ (by have := hq.length_eq; simp only [List.length_cons] at this; show q.length < rem.length; omega) hp2 ?_
    simp -dsimp (disch := first | omega | (simp only [wr_id, List.map_append, List.length_append, List.length_cons, List.length_nil, Nat.zero_add, LR] <;> omega) | fail) only [push_cast, wr_id, List.map_append, List.length_append, List.length_cons, List.length_nil, Nat.zero_add, simprocAttr, -Nat.reduceSubDiff]
    rfl
end Go.Proofs.YtkkmgjhfjhcdmaaGreatDoor.Mx

/- Texts put into stores: the program. -/
namespace Go.Proofs.YtkkmgjhfjhcdmaaGreatDoor.Mx
set_option linter.all false
open Go Go.RowKit Go.Proofs
set_option linter.unusedSimpArgs false
theorem ins_rowsG {α : Type} (f : α → Row) (P : List α) (z : α) (i : Nat) (hi : i ≤ P.length) : ∃ x : α,
    List.take (i + 1) (P.map f ++ [f z]) ++ List.take (P.length - i) (seg (P.map f ++ [f z]) i (P.length + 1 - i)) ++
      List.drop (i + 1 + min (seg (P.map f ++ [f z]) i (P.length + 1 - i)).length (P.length - i)) (P.map f ++ [f z]) = (P.take i ++ x :: P.drop i).map f := by
  have e : P.map f ++ [f z] = (P ++ [z]).map f := by simp
  rw [e, seg_dr (P ++ [z]) f i (P.length + 1 - i) (by simp only [List.length_append, List.length_cons, List.length_nil]; omega)]
  obtain ⟨x, hx⟩ := ex_get (show i < (P ++ [z]).length by simp; omega)
  refine ⟨x, ?_⟩
  have t1 : (P ++ [z]).take (i + 1) = P.take i ++ [x] := by rw [take_step hx, List.take_append_of_le_length hi]
  have t2 : ((P ++ [z]).drop i).take (P.length - i) = P.drop i := by rw [List.drop_append_of_le_length hi, List.take_append_of_le_length (by rw [List.length_drop]; omega), List.take_of_length_le (by rw [List.length_drop]; omega)]
  have t3 : List.drop (i + 1 + min (((P ++ [z]).drop i).map f).length (P.length - i)) ((P ++ [z]).map f) = [] := List.drop_eq_nil_of_le (by simp only [List.length_map, List.length_append, List.length_drop, List.length_cons, List.length_nil]; omega)
  rw [← List.map_take, ← List.map_take, t1, t2, t3]
  simp
theorem flat_seg {r : List Row} (h : flatR r = true) (a n : Nat) : flatR (seg r a n) = true := by
  unfold flatR seg at *
  rw [List.all_eq_true] at *
  exact fun x hx => h x (List.mem_of_mem_drop (List.mem_of_mem_take hx))
theorem midG_get {α : Type} {a b : List α} {x : α} {i : Nat} (h : a.length = i) : (a ++ x :: b)[i]? = some x := by subst h; simp
theorem midG_set {α : Type} {a b : List α} {x y : α} {i : Nat} (h : a.length = i) : (a ++ x :: b).set i y = a ++ y :: b := by subst h; simp
def E13 : Env := { T := T0, kp := look [(0, [0, 1, 2]), (1, [1, 2, 3, 6]), (2, [6]), (3, [1, 2, 3, 6]), (4, [1, 2, 3, 6, 8]), (5, [1, 2, 3, 6, 8, 9]), (6, [1, 2, 3, 6, 8, 9, 10]), (7, [1, 2, 6, 8, 10]), (8, [6]), (9, [2, 6, 8, 10]), (10, [6, 8]), (11, [1, 2, 3, 6, 8, 9]), (12, [1, 2, 3, 6, 8, 9, 11]), (13, [1, 2, 3, 6, 8, 9, 11, 69, 70, 71]), (14, [1, 2, 3, 6, 8, 9, 11, 69, 70, 71]), (15, [1, 2, 3, 6, 8, 9, 11, 13, 69, 70, 71]), (16, [1, 2, 3, 6, 8, 9, 11, 69, 70, 71]), (17, [1, 2, 3, 6, 8, 9, 11]), (18, [1, 2, 3, 6, 8, 9, 11, 14]), (19, [1, 2, 3, 6, 8, 9, 11, 14, 79, 80, 81]), (20, [1, 2, 3, 6, 8, 9, 11, 14, 79, 80, 81]), (21, [1, 2, 3, 6, 8, 9, 11, 14, 16, 79, 80, 81]), (22, [1, 2, 3, 6, 8, 9, 11, 14, 79, 80, 81]), (23, [1, 2, 3, 6, 8, 9, 11, 14]), (24, [1, 2, 3, 6, 8, 9, 11, 14]), (25, [1, 2, 3, 6, 8, 9, 11, 14, 17]), (26, [1, 2, 3, 6, 8, 9, 11, 14, 17, 105, 106, 107]), (27, [1, 2, 3, 6, 8, 9, 11, 14, 17, 105, 106, 107]), (28, [1, 2, 3, 6, 8, 9, 11, 14, 17, 18, 19, 105, 106, 107]), (29, [1, 2, 3, 6, 8, 9, 11, 14, 18, 105, 106, 107]), (30, [1, 2, 3, 6, 8, 9, 11, 14, 17, 105, 106, 107]), (31, [1, 2, 3, 6, 8, 9, 11, 14, 17]), (32, [6]), (33, [1, 2, 3, 6, 8, 9, 11, 14, 17]), (34, [1, 2, 3, 6, 8, 9, 11, 14, 17]), (35, [1, 2, 3, 6, 8, 9]), (36, [1, 2, 3, 6, 8, 9, 20]), (37, [1, 2, 3, 6, 8, 9, 20]), (38, [1, 2, 6, 8, 20]), (39, [1, 2, 6, 8, 20]), (40, [1, 2, 6, 8, 20]), (41, [6, 8])], dp := look2 [(28, [[], [], [1], [], [3], [1, 2, 3, 4], [0, 1, 2, 3, 4, 5], [0, 1, 2, 3, 4, 5, 6], [0, 1, 2, 3, 4, 5, 6, 7], [0, 1, 2, 3, 4, 5, 6, 7, 8], [0, 1, 2, 3, 4, 5, 6, 7, 8, 9], [0, 1, 2, 3, 4, 5, 6, 7, 8, 9, 10], [0, 1, 2, 3, 4, 5, 6, 7, 8, 9, 10, 11], [0, 1, 2, 3, 4, 5, 6, 7, 8, 9, 10, 11, 12], [0, 1, 2, 3, 4, 5, 6, 7, 8, 9, 10, 11], [0, 1, 2, 3, 4, 5, 6, 7, 8, 9, 10, 11, 14], [0, 1, 2, 3, 4, 5, 6, 7, 8, 9, 10, 11], [0, 1, 2, 3, 4, 5, 6, 7, 8, 9, 10, 11, 14, 15, 16], [0, 1, 2, 3, 4, 5, 6, 7, 8, 9, 10, 11, 14, 15, 16, 17], [0, 1, 2, 3, 4, 5, 6, 7, 8, 9, 10, 11, 14, 15, 16, 17, 18], [0, 1, 2, 3, 4, 5, 6, 7, 8, 9, 10, 11, 12, 13, 14, 15, 16, 17, 18, 19], [0, 1, 2, 3, 4, 5, 6, 7, 8, 9, 10, 11, 12, 13, 14, 15, 16, 17, 18, 19, 20], [0, 1, 2, 3, 4, 5, 6, 7, 8, 9, 10, 11, 12, 13, 14, 15, 16, 17, 18, 19, 20, 21]]), (34, [[], [0], [], [0, 1, 2], [], [4], [], [6], [4, 5, 6, 7], [0, 1, 2, 3, 4, 5, 6, 7, 8], [0, 1, 2, 3, 4, 5, 6, 7, 8, 9], [0, 1, 2, 3, 4, 5, 6, 7, 8, 9, 10]]), (36, [[], [], [1], [1, 2], [0, 1, 2, 3], [0, 1, 2, 3, 4], [0, 1, 2, 3, 4, 5], [0, 1, 2, 3, 4, 5, 6], [0, 1, 2, 3, 4, 5], [0, 1, 2, 3, 4, 5, 6, 7, 8], [0, 1, 2, 3, 4, 5, 6, 7, 8, 9], [0, 1, 2, 3, 4, 5, 6, 7, 8, 9, 10], [0, 1, 2, 3, 4, 5], [0, 1, 2, 3, 4, 5, 12], [0, 1, 2, 3, 4, 5, 6, 7, 8, 9, 10, 11, 12, 13], [0, 1, 2, 3, 4, 5], [0, 1, 2, 3, 4, 5, 6, 7, 8, 9, 10, 11, 12, 13, 14, 15], [0, 1, 2, 3, 4, 5, 6, 7, 8, 9, 10, 11, 12, 13, 14, 15, 16]]), (39, [[], [0], [], [2], [0, 1, 2, 3], [], [5], [], [5, 6, 7], [0, 1, 2, 3, 4, 5, 6, 7, 8]])] }
attribute [local push_cast] E13
set_option maxRecDepth 20000 in
set_option maxHeartbeats 4000000 in
theorem implPut (s : Store) (t : Str) (now : Int) (hs : okStore s) (ht : t.size ≤ 2097152) : Does Tryz.prog 13 [.ag (storeC false s), .sc (.string t), .sc (.int .i64 now)] (.tu [.ag (storeC true (putF s t now).1), .sc (.int .i64 (putF s t now).2)], []) := by
  refine does_of (E := E13) (rs := [.cell 6 26, .tmp 7]) (lent := []) tOk rfl Tryz.func13 rfl (by decide) rfl rfl (Nat.le_of_ble_eq_true rfl) (Nat.le_of_ble_eq_true rfl) ?_
  obtain ⟨M, hM⟩ : ∃ M, M = putF s t now := ⟨_, rfl⟩
  rw [← hM]
  unfold putF at hM
  have hI := hs.1.1
  (simp -dsimp (disch := first | omega | (simp only [LR] <;> omega) | fail) only [push_cast, simprocAttr, -Nat.reduceSubDiff]) <;> (repeat (refine (aw_draw (by kernel_rfl)).2 ?_; simp -dsimp (disch := first | omega | (simp only [LR] <;> omega) | fail) only [push_cast, simprocAttr, -Nat.reduceSubDiff]))
  refine callC (implValidStore s hs) ?_
  cases hv : validSt s with
  | false =>
    rw [hv, Bool.false_and, Bool.false_and, if_pos rfl] at hM
    subst hM
    (simp -dsimp (disch := first | omega | (simp only [LR] <;> omega) | fail) only [push_cast, simprocAttr, -Nat.reduceSubDiff]) <;> (repeat (refine (aw_draw (by kernel_rfl)).2 ?_; simp -dsimp (disch := first | omega | (simp only [LR] <;> omega) | fail) only [push_cast, simprocAttr, -Nat.reduceSubDiff]))
    rfl
  | true =>
  by_cases z1 : t.size < 1
  · have hz : inB t.size 1 7000 = false := decide_eq_false (by omega)
    rw [hz, Bool.and_false, Bool.false_and, if_pos rfl] at hM
    subst hM
    (simp -dsimp (disch := first | omega | (simp only [LR] <;> omega) | fail) only [push_cast, simprocAttr, -Nat.reduceSubDiff]) <;> (repeat (refine (aw_draw (by kernel_rfl)).2 ?_; simp -dsimp (disch := first | omega | (simp only [LR] <;> omega) | fail) only [push_cast, simprocAttr, -Nat.reduceSubDiff]))
    rfl
  by_cases z2 : 7000 < t.size
  · have hz : inB t.size 1 7000 = false := decide_eq_false (by omega)
    rw [hz, Bool.and_false, Bool.false_and, if_pos rfl] at hM
    subst hM
    (simp -dsimp (disch := first | omega | (simp only [LR] <;> omega) | fail) only [push_cast, simprocAttr, -Nat.reduceSubDiff]) <;> (repeat (refine (aw_draw (by kernel_rfl)).2 ?_; simp -dsimp (disch := first | omega | (simp only [LR] <;> omega) | fail) only [push_cast, simprocAttr, -Nat.reduceSubDiff]))
    rfl
  have hz : inB t.size 1 7000 = true := decide_eq_true (by omega)
  (simp -dsimp (disch := first | omega | (simp only [LR] <;> omega) | fail) only [push_cast, simprocAttr, -Nat.reduceSubDiff]) <;> (repeat (refine (aw_draw (by kernel_rfl)).2 ?_; simp -dsimp (disch := first | omega | (simp only [LR] <;> omega) | fail) only [push_cast, simprocAttr, -Nat.reduceSubDiff]))
  refine callC (timeOk now) ?_
  cases hn : inB now 0 1000000 with
  | false =>
    rw [hn, Bool.and_false, if_pos rfl] at hM
    subst hM
    (simp -dsimp (disch := first | omega | (simp only [LR] <;> omega) | fail) only [push_cast, simprocAttr, -Nat.reduceSubDiff]) <;> (repeat (refine (aw_draw (by kernel_rfl)).2 ?_; simp -dsimp (disch := first | omega | (simp only [LR] <;> omega) | fail) only [push_cast, simprocAttr, -Nat.reduceSubDiff]))
    rfl
  | true =>
  rw [if_neg (by rw [hv, hz, hn]; simp)] at hM
  have hP := valid_P hv
  (simp -dsimp (disch := first | omega | (simp only [LR] <;> omega) | fail) only [push_cast, simprocAttr, -Nat.reduceSubDiff]) <;> (repeat (refine (aw_draw (by kernel_rfl)).2 ?_; simp -dsimp (disch := first | omega | (simp only [LR] <;> omega) | fail) only [push_cast, simprocAttr, -Nat.reduceSubDiff]))
  refine callC (copyStore s hs) ?_
  (simp -dsimp (disch := first | omega | (simp only [LR] <;> omega) | fail) only [push_cast, simprocAttr, -Nat.reduceSubDiff]) <;> (repeat (refine (aw_draw (by kernel_rfl)).2 ?_; simp -dsimp (disch := first | omega | (simp only [LR] <;> omega) | fail) only [push_cast, simprocAttr, -Nat.reduceSubDiff]))
  refine callC (implSum t s.w (by omega)) ?_
  obtain ⟨u, hu⟩ : ∃ u, u = sumS t s.w := ⟨_, rfl⟩
  rw [← hu] at hM ⊢
  (simp -dsimp (disch := first | omega | (simp only [LR] <;> omega) | fail) only [push_cast, simprocAttr, -Nat.reduceSubDiff]) <;> (repeat (refine (aw_draw (by kernel_rfl)).2 ?_; simp -dsimp (disch := first | omega | (simp only [LR] <;> omega) | fail) only [push_cast, simprocAttr, -Nat.reduceSubDiff]))
  refine callC (find s u hs) ?_
  by_cases hat : 0 ≤ atI s.w u s.I
  · rw [if_pos hat] at hM
    obtain ⟨i, x, h1, h2, _⟩ := at_get hat
    have hil := (List.getElem?_eq_some_iff.1 h2).1
    rw [textAt_some h1 h2, h1, Int.toNat_natCast] at hM
    rw [h1]
    by_cases he : x.t = t
    · rw [if_pos he] at hM
      subst hM
      (simp -dsimp (disch := first | omega | (simp only [h2, he, set_item, LR] <;> omega) | fail) only [push_cast, h2, he, set_item, simprocAttr, -Nat.reduceSubDiff]) <;> (repeat (refine (aw_draw (by kernel_rfl)).2 ?_; simp -dsimp (disch := first | omega | (simp only [h2, he, set_item, LR] <;> omega) | fail) only [push_cast, h2, he, set_item, simprocAttr, -Nat.reduceSubDiff]))
    · rw [if_neg he] at hM
      subst hM
      (simp -dsimp (disch := first | omega | (simp only [h2, he, LR] <;> omega) | fail) only [push_cast, h2, he, simprocAttr, -Nat.reduceSubDiff]) <;> (repeat (refine (aw_draw (by kernel_rfl)).2 ?_; simp -dsimp (disch := first | omega | (simp only [h2, he, LR] <;> omega) | fail) only [push_cast, h2, he, simprocAttr, -Nat.reduceSubDiff]))
      rfl
  rw [if_neg hat] at hM
  (simp -dsimp (disch := first | omega | (simp only [hat, LR] <;> omega) | fail) only [push_cast, hat, simprocAttr, -Nat.reduceSubDiff]) <;> (repeat (refine (aw_draw (by kernel_rfl)).2 ?_; simp -dsimp (disch := first | omega | (simp only [hat, LR] <;> omega) | fail) only [push_cast, hat, simprocAttr, -Nat.reduceSubDiff]))
  refine callC (implNeeded0 s hs hP) ?_
  have hNl := needL_len hP
  rw [show (nmsL s).foldl addS [] = needL s from rfl]
  generalize needL s = N at hM hNl ⊢
  (simp -dsimp (disch := first | omega | (simp only [LR] <;> omega) | fail) only [push_cast, simprocAttr, -Nat.reduceSubDiff]) <;> (repeat (refine (aw_draw (by kernel_rfl)).2 ?_; simp -dsimp (disch := first | omega | (simp only [LR] <;> omega) | fail) only [push_cast, simprocAttr, -Nat.reduceSubDiff]))
  refine loop_ind (α := Nat) (fun i => i ≤ N.length)
    (fun i => ⟨[(1, .sc (.string t)), (2, .sc (.int .i64 now)), (3, .pt 1 0 0), (6, .pt 2 0 0), (8, .pt 5 0 0), (9, .sc (.string u)), (11, .mv 8), (69, .ow 9 0 N.length), (70, .sc (.int .i64 N.length)), (71, .sc (.int .i64 i))],
      [(1, .bx (storeC false s)), (2, .bx [.sc (.int .i64 0), .sc (.int .i64 0), .ow 3 0 0, .ow 4 0 0]), (3, .ar 2 0 []), (4, .ar 1 0 []), (5, .bx [.sc (.int .i64 s.w), .sc (.int .i64 s.r), .ow 6 0 s.I.length, .ow 7 0 s.P.length]), (6, .ar 2 0 (s.I.map (itemC true))), (7, .ar 1 0 (s.P.map strR)), (8, .mp 0 (mset (N.take i))), (9, .ar 1 0 (N.map strR))], 10⟩) (fun i => N.length - i) 0 (Nat.zero_le _) ?_ ?_
  · simp -dsimp (disch := first | omega | (simp only [mset, List.take_zero, List.foldl_nil, LR] <;> omega) | fail) only [push_cast, mset, List.take_zero, List.foldl_nil, simprocAttr, -Nat.reduceSubDiff]
  intro i hi ih
  by_cases h : i < N.length
  · obtain ⟨x, hx⟩ := ex_get h
    have hk := mok_kok (mset_mok (N.take i))
    have hst := mset_step hx
    generalize mset (N.take i) = E at *
    (simp -dsimp (disch := first | omega | (simp only [h, hx, pMapSet, hk.1, kkey, LR] <;> omega) | fail) only [push_cast, h, hx, pMapSet, hk.1, kkey, simprocAttr, -Nat.reduceSubDiff]) <;> (repeat (refine (aw_draw (by kernel_rfl)).2 ?_; simp -dsimp (disch := first | omega | (simp only [h, hx, pMapSet, hk.1, kkey, LR] <;> omega) | fail) only [push_cast, h, hx, pMapSet, hk.1, kkey, simprocAttr, -Nat.reduceSubDiff]))
    refine ih (i + 1) _ (by omega) h ?_
    rw [hst]
    simp -dsimp (disch := first | omega | (simp only [wr_id, LR] <;> omega) | fail) only [push_cast, wr_id, simprocAttr, -Nat.reduceSubDiff]
  rw [show N.take i = N from List.take_of_length_le (by omega)]
  clear ih
  (simp -dsimp (disch := first | omega | (simp only [h, LR] <;> omega) | fail) only [push_cast, h, simprocAttr, -Nat.reduceSubDiff]) <;> (repeat (refine (aw_draw (by kernel_rfl)).2 ?_; simp -dsimp (disch := first | omega | (simp only [h, LR] <;> omega) | fail) only [push_cast, h, simprocAttr, -Nat.reduceSubDiff]))
  refine loop_ind (α := Nat) (fun i => i ≤ s.I.length)
    (fun i => ⟨[(1, .sc (.string t)), (2, .sc (.int .i64 now)), (3, .pt 1 0 0), (6, .pt 2 0 0), (8, .pt 5 0 0), (9, .sc (.string u)), (11, .mv 8), (14, .sc (.int .i64 (bytes (s.I.take i)))), (79, .ow 6 0 s.I.length), (80, .sc (.int .i64 s.I.length)), (81, .sc (.int .i64 i))],
      [(1, .bx (storeC false s)), (2, .bx [.sc (.int .i64 0), .sc (.int .i64 0), .ow 3 0 0, .ow 4 0 0]), (3, .ar 2 0 []), (4, .ar 1 0 []), (5, .bx [.sc (.int .i64 s.w), .sc (.int .i64 s.r), .ow 6 0 s.I.length, .ow 7 0 s.P.length]), (6, .ar 2 0 (s.I.map (itemC true))), (7, .ar 1 0 (s.P.map strR)), (8, .mp 0 (mset N))], 9⟩) (fun i => s.I.length - i) 0 (Nat.zero_le _) ?_ ?_
  · simp -dsimp (disch := first | omega | (simp only [List.take_zero, bytes, LR] <;> omega) | fail) only [push_cast, List.take_zero, bytes, simprocAttr, -Nat.reduceSubDiff]
  intro i2 hi2 ih
  by_cases h2 : i2 < s.I.length
  · obtain ⟨x, hx⟩ := ex_get h2
    have hbt := bytes_le hs.1
    have b1 := bytes_app (s.I.take (i2 + 1)) (s.I.drop (i2 + 1))
    have b2 := bytes_app (s.I.take i2) [x]
    rw [← take_step hx, bytes, bytes] at b2
    rw [List.take_append_drop] at b1
    have b3 := bytes_nn (s.I.drop (i2 + 1))
    have b4 := bytes_nn (s.I.take i2)
    (simp -dsimp (disch := first | omega | (simp only [h2, hx, wr_id, LR] <;> omega) | fail) only [push_cast, h2, hx, wr_id, simprocAttr, -Nat.reduceSubDiff]) <;> (repeat (refine (aw_draw (by kernel_rfl)).2 ?_; simp -dsimp (disch := first | omega | (simp only [h2, hx, wr_id, LR] <;> omega) | fail) only [push_cast, h2, hx, wr_id, simprocAttr, -Nat.reduceSubDiff]))
    refine ih (i2 + 1) _ (by omega) h2 ?_
    rw [b2]
    simp -dsimp (disch := first | omega | (simp only [wr_id, Int.add_zero, LR] <;> omega) | fail) only [push_cast, wr_id, Int.add_zero, simprocAttr, -Nat.reduceSubDiff]
  rw [show s.I.take i2 = s.I from List.take_of_length_le (by omega)]
  clear ih
  (simp -dsimp (disch := first | omega | (simp only [h2, LR] <;> omega) | fail) only [push_cast, h2, simprocAttr, -Nat.reduceSubDiff]) <;> (repeat (refine (aw_draw (by kernel_rfl)).2 ?_; simp -dsimp (disch := first | omega | (simp only [h2, LR] <;> omega) | fail) only [push_cast, h2, simprocAttr, -Nat.reduceSubDiff]))
  obtain ⟨E, hE⟩ : ∃ E, E = evF s.w s.r N t.size s.I := ⟨_, rfl⟩
  rw [← hE] at hM
  have hk := mok_kok (mset_mok N)
  have hk2 := hk.2
  simp only [plain] at hk2
  refine loop_ind (α := List Item) (fun J => okL okItem J ∧ evF s.w s.r N t.size J = E)
    (fun J => ⟨[(1, .sc (.string t)), (2, .sc (.int .i64 now)), (3, .pt 1 0 0), (6, .pt 2 0 0), (8, .pt 5 0 0), (9, .sc (.string u)), (11, .mv 8), (14, .sc (.int .i64 (bytes J)))],
      [(1, .bx (storeC false s)), (2, .bx [.sc (.int .i64 0), .sc (.int .i64 0), .ow 3 0 0, .ow 4 0 0]), (3, .ar 2 0 []), (4, .ar 1 0 []), (5, .bx [.sc (.int .i64 s.w), .sc (.int .i64 s.r), .ow 6 0 J.length, .ow 7 0 s.P.length]), (6, .ar 2 0 (J.map (itemC true))), (7, .ar 1 0 (s.P.map strR)), (8, .mp 0 (mset N))], 9⟩) (fun J => J.length) s.I ⟨hs.1, hE.symm⟩ ?_ ?_
  · simp -dsimp (disch := first | omega | (simp only [LR] <;> omega) | fail) only [push_cast, simprocAttr, -Nat.reduceSubDiff]
  rintro J ⟨hJ, hEJ⟩ ih
  have hJl := hJ.1
  have hb := bytes_le hJ
  have hb0 := bytes_nn J
  rw [evF] at hEJ
  by_cases hc : s.r < bytes J + t.size ∨ 1000 ≤ J.length
  · rw [if_pos hc] at hEJ
    have two : (s.r < bytes J + t.size ∧ s.r < bytes J + t.size) ∨ (¬ s.r < bytes J + t.size ∧ 1000 ≤ J.length) := by omega
    rcases two with ⟨h1, h2⟩ | ⟨h1, h2⟩
    all_goals
      (simp -dsimp (disch := first | omega | (simp only [wr_id, LR] <;> omega) | fail) only [push_cast, wr_id, simprocAttr, -Nat.reduceSubDiff]) <;> (repeat (refine (aw_draw (by kernel_rfl)).2 ?_; simp -dsimp (disch := first | omega | (simp only [wr_id, LR] <;> omega) | fail) only [push_cast, wr_id, simprocAttr, -Nat.reduceSubDiff]))
      refine loop_ind (α := Nat) (fun i => i ≤ J.length)
        (fun i => ⟨[(1, .sc (.string t)), (2, .sc (.int .i64 now)), (3, .pt 1 0 0), (6, .pt 2 0 0), (8, .pt 5 0 0), (9, .sc (.string u)), (11, .mv 8), (14, .sc (.int .i64 (bytes J))), (17, .sc (.int .i64 (bestF s.w N J i))), (105, .ow 6 0 J.length), (106, .sc (.int .i64 J.length)), (107, .sc (.int .i64 i))],
          [(1, .bx (storeC false s)), (2, .bx [.sc (.int .i64 0), .sc (.int .i64 0), .ow 3 0 0, .ow 4 0 0]), (3, .ar 2 0 []), (4, .ar 1 0 []), (5, .bx [.sc (.int .i64 s.w), .sc (.int .i64 s.r), .ow 6 0 J.length, .ow 7 0 s.P.length]), (6, .ar 2 0 (J.map (itemC true))), (7, .ar 1 0 (s.P.map strR)), (8, .mp 0 (mset N))], 9⟩) (fun i => J.length - i) 0 (Nat.zero_le _) ?_ ?_
      · simp -dsimp (disch := first | omega | (simp only [bestF, LR] <;> omega) | fail) only [push_cast, bestF, simprocAttr, -Nat.reduceSubDiff]
      intro i hi ih2
      by_cases h : i < J.length
      · obtain ⟨x, hx⟩ := ex_get h
        have hxt : x.t.size ≤ 2097152 := hJ.2 x (List.mem_of_getElem? hx)
        have hst : bestF s.w N J (i + 1) = if inL N (sumS x.t s.w) = false ∧ (bestF s.w N J i < 0 ∨ x.u < usedAt J (bestF s.w N J i)) then (i : Int) else bestF s.w N J i := by rw [bestF, hx]
        have hr := best_rng s.w N J i
        obtain ⟨B, hB⟩ : ∃ B, B = bestF s.w N J i := ⟨_, rfl⟩
        rw [← hB] at hst hr ⊢
        (simp -dsimp (disch := first | omega | (simp only [h, hx, LR] <;> omega) | fail) only [push_cast, h, hx, simprocAttr, -Nat.reduceSubDiff]) <;> (repeat (refine (aw_draw (by kernel_rfl)).2 ?_; simp -dsimp (disch := first | omega | (simp only [h, hx, LR] <;> omega) | fail) only [push_cast, h, hx, simprocAttr, -Nat.reduceSubDiff]))
        refine callC (implSum x.t s.w (by omega)) ?_
        cases hin : inL N (sumS x.t s.w) with
        | true =>
          rw [if_neg (by rw [hin]; simp)] at hst
          (simp -dsimp (disch := first | omega | (simp only [h, hx, pLookup, entries, hk.1, hk2, kkey, mset_get, hin, LR] <;> omega) | fail) only [push_cast, h, hx, pLookup, entries, hk.1, hk2, kkey, mset_get, hin, simprocAttr, -Nat.reduceSubDiff]) <;> (repeat (refine (aw_draw (by kernel_rfl)).2 ?_; simp -dsimp (disch := first | omega | (simp only [h, hx, pLookup, entries, hk.1, hk2, kkey, mset_get, hin, LR] <;> omega) | fail) only [push_cast, h, hx, pLookup, entries, hk.1, hk2, kkey, mset_get, hin, simprocAttr, -Nat.reduceSubDiff]))
          refine ih2 (i + 1) _ (by omega) h ?_
          rw [hst]
          simp -dsimp (disch := first | omega | (simp only [wr_id, LR] <;> omega) | fail) only [push_cast, wr_id, simprocAttr, -Nat.reduceSubDiff]
        | false =>
        by_cases hB0 : B < 0
        · rw [if_pos ⟨hin, .inl hB0⟩] at hst
          (simp -dsimp (disch := first | omega | (simp only [h, hx, pLookup, entries, hk.1, hk2, kkey, mset_get, hin, hB0, LR] <;> omega) | fail) only [push_cast, h, hx, pLookup, entries, hk.1, hk2, kkey, mset_get, hin, hB0, simprocAttr, -Nat.reduceSubDiff]) <;> (repeat (refine (aw_draw (by kernel_rfl)).2 ?_; simp -dsimp (disch := first | omega | (simp only [h, hx, pLookup, entries, hk.1, hk2, kkey, mset_get, hin, hB0, LR] <;> omega) | fail) only [push_cast, h, hx, pLookup, entries, hk.1, hk2, kkey, mset_get, hin, hB0, simprocAttr, -Nat.reduceSubDiff]))
          refine ih2 (i + 1) _ (by omega) h ?_
          rw [hst]
          simp -dsimp (disch := first | omega | (simp only [wr_id, LR] <;> omega) | fail) only [push_cast, wr_id, simprocAttr, -Nat.reduceSubDiff]
        obtain ⟨k, hk0⟩ : ∃ k : Nat, B = k := ⟨B.toNat, by omega⟩
        rw [hk0] at hst hB0 hr ⊢
        obtain ⟨y, hy⟩ := ex_get (show k < J.length by omega)
        have hua : usedAt J (k : Int) = y.u := by unfold usedAt; rw [Int.toNat_natCast, hy]
        rw [hua] at hst
        by_cases hlt : x.u < y.u
        · rw [if_pos ⟨hin, .inr hlt⟩] at hst
          (simp -dsimp (disch := first | omega | (simp only [h, hx, hy, pLookup, entries, hk.1, hk2, kkey, mset_get, hin, hB0, hlt, LR] <;> omega) | fail) only [push_cast, h, hx, hy, pLookup, entries, hk.1, hk2, kkey, mset_get, hin, hB0, hlt, simprocAttr, -Nat.reduceSubDiff]) <;> (repeat (refine (aw_draw (by kernel_rfl)).2 ?_; simp -dsimp (disch := first | omega | (simp only [h, hx, hy, pLookup, entries, hk.1, hk2, kkey, mset_get, hin, hB0, hlt, LR] <;> omega) | fail) only [push_cast, h, hx, hy, pLookup, entries, hk.1, hk2, kkey, mset_get, hin, hB0, hlt, simprocAttr, -Nat.reduceSubDiff]))
          refine ih2 (i + 1) _ (by omega) h ?_
          rw [hst]
          simp -dsimp (disch := first | omega | (simp only [wr_id, LR] <;> omega) | fail) only [push_cast, wr_id, simprocAttr, -Nat.reduceSubDiff]
        · rw [if_neg (by rintro ⟨_, q | q⟩; exact hB0 q; exact hlt q)] at hst
          (simp -dsimp (disch := first | omega | (simp only [h, hx, hy, pLookup, entries, hk.1, hk2, kkey, mset_get, hin, hB0, hlt, LR] <;> omega) | fail) only [push_cast, h, hx, hy, pLookup, entries, hk.1, hk2, kkey, mset_get, hin, hB0, hlt, simprocAttr, -Nat.reduceSubDiff]) <;> (repeat (refine (aw_draw (by kernel_rfl)).2 ?_; simp -dsimp (disch := first | omega | (simp only [h, hx, hy, pLookup, entries, hk.1, hk2, kkey, mset_get, hin, hB0, hlt, LR] <;> omega) | fail) only [push_cast, h, hx, hy, pLookup, entries, hk.1, hk2, kkey, mset_get, hin, hB0, hlt, simprocAttr, -Nat.reduceSubDiff]))
          refine ih2 (i + 1) _ (by omega) h ?_
          rw [hst]
          simp -dsimp (disch := first | omega | (simp only [wr_id, LR] <;> omega) | fail) only [push_cast, wr_id, simprocAttr, -Nat.reduceSubDiff]
      have hi : i = J.length := by omega
      subst hi
      clear ih2
      have hr := best_rng s.w N J J.length
      obtain ⟨B, hB⟩ : ∃ B, B = bestF s.w N J J.length := ⟨_, rfl⟩
      rw [← hB] at hEJ hr ⊢
      by_cases hB0 : B < 0
      · rw [if_neg (by omega)] at hEJ
        rw [← hEJ] at hM
        subst hM
        (simp -dsimp (disch := first | omega | (simp only [hB0, LR] <;> omega) | fail) only [push_cast, hB0, simprocAttr, -Nat.reduceSubDiff]) <;> (repeat (refine (aw_draw (by kernel_rfl)).2 ?_; simp -dsimp (disch := first | omega | (simp only [hB0, LR] <;> omega) | fail) only [push_cast, hB0, simprocAttr, -Nat.reduceSubDiff]))
        rfl
      · rw [if_pos (by omega)] at hEJ
        obtain ⟨k, hk0⟩ : ∃ k : Nat, B = k := ⟨B.toNat, by omega⟩
        rw [hk0, Int.toNat_natCast] at hEJ
        rw [hk0] at hB0 hr ⊢
        obtain ⟨y, hy⟩ := ex_get (show k < J.length by omega)
        have hyt : y.t.size ≤ 2097152 := hJ.2 y (List.mem_of_getElem? hy)
        have hrl := rmAt_len (l := J) (i := k) (by omega)
        have hrb := bytes_rm hy
        have hrb0 := bytes_nn (rmAt J k)
        have e0 : bytes J - y.t.size = bytes (rmAt J k) := by omega
        have e1 : ((k : Int) + 1).toNat = k + 1 := by omega
        have e2 : k + (J.drop (k + 1)).length = (rmAt J k).length := by rw [List.length_drop]; omega
        have e3 : (J.map (itemC true)).length = J.length := List.length_map _
        have e4 : (J.take k).map (itemC true) ++ (J.drop (k + 1)).map (itemC true) = (rmAt J k).map (itemC true) := by unfold rmAt; rw [List.map_append]
        (simp -dsimp (disch := first | omega | (simp only [hB0, hy, e0, e1, seg_tk, seg_dr, wr_id, LR] <;> omega) | fail) only [push_cast, hB0, hy, e0, e1, seg_tk, seg_dr, wr_id, simprocAttr, -Nat.reduceSubDiff]) <;> (repeat (refine (aw_draw (by kernel_rfl)).2 ?_; simp -dsimp (disch := first | omega | (simp only [hB0, hy, e0, e1, seg_tk, seg_dr, wr_id, LR] <;> omega) | fail) only [push_cast, hB0, hy, e0, e1, seg_tk, seg_dr, wr_id, simprocAttr, -Nat.reduceSubDiff]))
        refine ih (rmAt J k) _ (by omega) ⟨⟨by omega, fun a ha => hJ.2 a (by unfold rmAt at ha; rcases List.mem_append.1 ha with q | q; exact List.mem_of_mem_take q; exact List.mem_of_mem_drop q)⟩, hEJ⟩ ?_
        simp -dsimp (disch := first | omega | (simp only [wr_id, e0, e1, e2, e4, LR] <;> omega) | fail) only [push_cast, wr_id, e0, e1, e2, e4, simprocAttr, -Nat.reduceSubDiff]
  · rw [if_neg hc] at hEJ
    rw [← hEJ] at hM
    simp only at hM
    have h1 : ¬ s.r < bytes J + t.size := by omega
    have h2 : ¬ 1000 ≤ J.length := by omega
    clear ih hEJ hE
    (simp -dsimp (disch := first | omega | (simp only [wr_id, LR] <;> omega) | fail) only [push_cast, wr_id, simprocAttr, -Nat.reduceSubDiff]) <;> (repeat (refine (aw_draw (by kernel_rfl)).2 ?_; simp -dsimp (disch := first | omega | (simp only [wr_id, LR] <;> omega) | fail) only [push_cast, wr_id, simprocAttr, -Nat.reduceSubDiff]))
    have hkr := rk_le (sumsI s.w J) u
    have hsl : (sumsI s.w J).length = J.length := by unfold sumsI; rw [List.length_map]
    refine loop_ind (α := Nat) (fun k => k ≤ rk (sumsI s.w J) u)
      (fun k => ⟨[(1, .sc (.string t)), (2, .sc (.int .i64 now)), (3, .pt 1 0 0), (6, .pt 2 0 0), (8, .pt 5 0 0), (9, .sc (.string u)), (20, .sc (.int .i64 k))],
        [(1, .bx (storeC false s)), (2, .bx [.sc (.int .i64 0), .sc (.int .i64 0), .ow 3 0 0, .ow 4 0 0]), (3, .ar 2 0 []), (4, .ar 1 0 []), (5, .bx [.sc (.int .i64 s.w), .sc (.int .i64 s.r), .ow 6 0 J.length, .ow 7 0 s.P.length]), (6, .ar 2 0 (J.map (itemC true))), (7, .ar 1 0 (s.P.map strR))], 8⟩) (fun k => J.length - k) 0 (Nat.zero_le _) ?_ ?_
    · simp -dsimp (disch := first | omega | (simp only [LR] <;> omega) | fail) only [push_cast, simprocAttr, -Nat.reduceSubDiff]
    intro k hkk0 ih
    have last : k = rk (sumsI s.w J) u → k ≤ J.length ∧ M = ({ s with I := insAt J k ⟨t, now⟩ }, 0) := fun q => ⟨by omega, by rw [hM, ← q]⟩
    obtain ⟨z, hins⟩ : ∃ z : Item, k ≤ J.length → List.take (k + 1) (J.map (itemC true) ++ [itemC true ⟨⟨#[]⟩, 0⟩]) ++ List.take (J.length - k) (seg (J.map (itemC true) ++ [itemC true ⟨⟨#[]⟩, 0⟩]) k (J.length + 1 - k)) ++
      List.drop (k + 1 + min (seg (J.map (itemC true) ++ [itemC true ⟨⟨#[]⟩, 0⟩]) k (J.length + 1 - k)).length (J.length - k)) (J.map (itemC true) ++ [itemC true ⟨⟨#[]⟩, 0⟩]) = (J.take k ++ z :: J.drop k).map (itemC true) := by
      by_cases q : k ≤ J.length
      · obtain ⟨z, hz⟩ := ins_rowsG (itemC true) J ⟨⟨#[]⟩, 0⟩ k q
        exact ⟨z, fun _ => hz⟩
      · exact ⟨⟨em, 0⟩, fun q2 => (q q2).elim⟩
    have e1 : ((k : Int) + 1).toNat = k + 1 := by omega
    have e2 : ((J.length : Int) + 1 - ((k : Int) + 1)).toNat = J.length - k := by omega
    have e3 : ((J.length : Int) + 1 - (k : Int)).toNat = J.length + 1 - k := by omega
    have hfl : flatR (seg (J.map (itemC true) ++ [itemC true ⟨⟨#[]⟩, 0⟩]) k (J.length + 1 - k)) = true := flat_seg (by rw [flatR_app, flat_Item]; rfl) _ _
    have hg := fun q : k ≤ J.length => midG_get (a := J.take k) (b := J.drop k) (x := z) (i := k) (by simp; omega)
    have hset := fun q : k ≤ J.length => set_item (J.take k ++ z :: J.drop k) k t now
    have hms := fun q : k ≤ J.length => midG_set (a := J.take k) (b := J.drop k) (x := z) (y := (⟨t, now⟩ : Item)) (i := k) (by simp; omega)
    simp only [itemC] at hfl
    by_cases h : k < J.length
    · obtain ⟨x, hx⟩ := ex_get h
      have hxt : x.t.size ≤ 2097152 := hJ.2 x (List.mem_of_getElem? hx)
      have hxs : (sumsI s.w J)[k]? = some (sumS x.t s.w) := by unfold sumsI; rw [List.getElem?_map, hx]; rfl
      (simp -dsimp (disch := first | omega | (simp only [h, hx, LR] <;> omega) | fail) only [push_cast, h, hx, simprocAttr, -Nat.reduceSubDiff]) <;> (repeat (refine (aw_draw (by kernel_rfl)).2 ?_; simp -dsimp (disch := first | omega | (simp only [h, hx, LR] <;> omega) | fail) only [push_cast, h, hx, simprocAttr, -Nat.reduceSubDiff]))
      refine callC (implSum x.t s.w (by omega)) ?_
      cases e : lts (sumS x.t s.w) u with
      | true =>
        have := rk_step hkk0 hxs e
        (simp -dsimp (disch := first | omega | (simp only [h, hx, e, LR] <;> omega) | fail) only [push_cast, h, hx, e, simprocAttr, -Nat.reduceSubDiff]) <;> (repeat (refine (aw_draw (by kernel_rfl)).2 ?_; simp -dsimp (disch := first | omega | (simp only [h, hx, e, LR] <;> omega) | fail) only [push_cast, h, hx, e, simprocAttr, -Nat.reduceSubDiff]))
        refine ih (k + 1) _ (by omega) this ?_
        simp -dsimp (disch := first | omega | (simp only [wr_id, LR] <;> omega) | fail) only [push_cast, wr_id, simprocAttr, -Nat.reduceSubDiff]
      | false =>
        have hkk : k = rk (sumsI s.w J) u := by
          rcases Nat.lt_or_eq_of_le hkk0 with q | q
          · obtain ⟨y, hy, hy2⟩ := rk_all q
            rw [hxs] at hy; cases hy; rw [e] at hy2; cases hy2
          · exact q
        obtain ⟨hkl, hM⟩ := last hkk
        have hins := hins hkl
        have hg := hg hkl
        have hset := hset hkl
        rw [hms hkl] at hset
        simp only [itemC] at hins
        subst hM
        (simp -dsimp (disch := first | omega | (simp only [h, hx, e, wr_id, e1, e2, e3, hins, hg, hfl, LR] <;> omega) | fail) only [push_cast, h, hx, e, wr_id, e1, e2, e3, hins, hg, hfl, simprocAttr, -Nat.reduceSubDiff]) <;> (repeat (refine (aw_draw (by kernel_rfl)).2 ?_; simp -dsimp (disch := first | omega | (simp only [h, hx, e, wr_id, e1, e2, e3, hins, hg, hfl, LR] <;> omega) | fail) only [push_cast, h, hx, e, wr_id, e1, e2, e3, hins, hg, hfl, simprocAttr, -Nat.reduceSubDiff]))
        rw [hset]
        rfl
    · have hkk : k = rk (sumsI s.w J) u := by omega
      obtain ⟨hkl, hM⟩ := last hkk
      have hins := hins hkl
      have hg := hg hkl
      have hset := hset hkl
      rw [hms hkl] at hset
      simp only [itemC] at hins
      subst hM
      (simp -dsimp (disch := first | omega | (simp only [h, wr_id, e1, e2, e3, hins, hg, hfl, LR] <;> omega) | fail) only [push_cast, h, wr_id, e1, e2, e3, hins, hg, hfl, simprocAttr, -Nat.reduceSubDiff]) <;> (repeat (refine (aw_draw (by kernel_rfl)).2 ?_; simp -dsimp (disch := first | omega | (simp only [h, wr_id, e1, e2, e3, hins, hg, hfl, LR] <;> omega) | fail) only [push_cast, h, wr_id, e1, e2, e3, hins, hg, hfl, simprocAttr, -Nat.reduceSubDiff]))
      rw [hset]
      rfl
end Go.Proofs.YtkkmgjhfjhcdmaaGreatDoor.Mx

/- Stores stay valid; what is needed stays: pure. -/
namespace Go.Proofs.YtkkmgjhfjhcdmaaGreatDoor.Mx
set_option linter.all false
open Go Go.RowKit
/-- a text with its sum -/
def has (s : Store) (t : Str) : Prop := ∃ x ∈ s.I, x.t = t
end Go.Proofs.YtkkmgjhfjhcdmaaGreatDoor.Mx

/- A fetch takes a message: pure. -/
namespace Go.Proofs.YtkkmgjhfjhcdmaaGreatDoor.Mx
set_option linter.all false
open Go Go.RowKit
/-- an answer without a text -/
def notP (p : Peer) (u : Str) : Peer := ⟨p.lies, 0, p.last, em, if (addS p.N u).length ≤ 376 then addS p.N u else p.N⟩
def lieP (p : Peer) (b : Bool) : Peer := ⟨if b = true then (if 3 < p.lies + 1 then 3 else p.lies + 1) else p.lies, 0, p.last, em, p.N⟩
/-- was it a lie? -/
noncomputable def lieB (f : Fetch) (m : Message) : Bool :=
  !decide (sumS m.tx f.st.w = m.sum) || (decide (m.sum = f.nm) && !(readL m.tx f.st.w).2) || decide ((putF f.st m.tx f.now).2 = 1) || decide ((putF f.st m.tx f.now).2 = 2)
noncomputable def takeF (f : Fetch) (m : Message) : Fetch :=
  if m.to ≠ 0 ∨ m.fr < 1 ∨ (f.Q.length : Int) < m.fr then f
  else match f.Q[(m.fr - 1).toNat]? with
    | none => f
    | some p =>
      if p.wait = 0 ∨ m.sum ≠ p.ask then f
      else if m.has = false then { f with Q := f.Q.set (m.fr - 1).toNat (notP p m.sum) }
      else { f with
        full := if lieB f m = false ∧ (putF f.st m.tx f.now).2 = 3 then true else f.full
        st := if lieB f m = false ∧ (putF f.st m.tx f.now).2 = 0 then (putF f.st m.tx f.now).1 else f.st
        Q := f.Q.set (m.fr - 1).toNat (lieP p (lieB f m)) }
/-- does the message reach what it answers? -/
noncomputable def takenB (f : Fetch) (m : Message) : Bool :=
  if m.to ≠ 0 ∨ m.fr < 1 ∨ (f.Q.length : Int) < m.fr then false
  else match f.Q[(m.fr - 1).toNat]? with
    | none => false
    | some p => if p.wait = 0 ∨ m.sum ≠ p.ask then false else if m.has = false then false else lieB f m
noncomputable def ftakeF (f : Fetch) (m : Message) : Fetch := if validF f = true then takeF f m else emF
end Go.Proofs.YtkkmgjhfjhcdmaaGreatDoor.Mx

/- Fetches: valid (the program's). -/
namespace Go.Proofs.YtkkmgjhfjhcdmaaGreatDoor.Mx
set_option linter.all false
open Go Go.RowKit Go.Proofs
set_option linter.unusedSimpArgs false
def E50 : Env := { T := T0, kp := look [(0, [0]), (1, [1]), (2, []), (3, [1]), (4, [1, 4]), (5, []), (6, [1]), (7, [1, 5]), (8, [1, 5, 44, 45, 46]), (9, [1, 5, 44, 45, 46]), (10, [1, 5, 7, 44, 45, 46]), (11, []), (12, [1, 5, 7, 44, 45, 46]), (13, []), (14, [1, 5, 44, 45, 46]), (15, [])] }
attribute [local push_cast] E50
set_option maxRecDepth 20000 in
set_option maxHeartbeats 4000000 in
theorem implValidFetch (f : Fetch) (hf : okFetch f) : Does Tryz.prog 50 [.ag (fetchC false f)] (.sc (.bool (validF f)), []) := by
  refine does_of (E := E50) (rs := [.tmp 2]) (lent := []) tOk rfl Tryz.func50 rfl (by decide) rfl rfl (Nat.le_of_ble_eq_true rfl) (Nat.le_of_ble_eq_true rfl) ?_
  have hl := hf.2.2.1
  have hp := hf.2.1.2.1
  obtain ⟨M, hM⟩ : ∃ M, M = validF f := ⟨_, rfl⟩
  rw [← hM]
  unfold validF at hM
  (simp -dsimp (disch := first | omega | (simp only [LR] <;> omega) | fail) only [push_cast, simprocAttr, -Nat.reduceSubDiff]) <;> (repeat (refine (aw_draw (by kernel_rfl)).2 ?_; simp -dsimp (disch := first | omega | (simp only [LR] <;> omega) | fail) only [push_cast, simprocAttr, -Nat.reduceSubDiff]))
  refine callC (implValidStore f.st hf.2.1) ?_
  cases c1 : validSt f.st with
  | false =>
    rw [c1, Bool.false_and, Bool.false_and, Bool.false_and, Bool.false_and] at hM
    (simp -dsimp (disch := first | omega | (simp only [hM, LR] <;> omega) | fail) only [push_cast, hM, simprocAttr, -Nat.reduceSubDiff]) <;> (repeat (refine (aw_draw (by kernel_rfl)).2 ?_; simp -dsimp (disch := first | omega | (simp only [hM, LR] <;> omega) | fail) only [push_cast, hM, simprocAttr, -Nat.reduceSubDiff]))
  | true =>
  rw [c1, Bool.true_and] at hM
  have hasc := (validSt_asc c1).1
  (simp -dsimp (disch := first | omega | (simp only [LR] <;> omega) | fail) only [push_cast, simprocAttr, -Nat.reduceSubDiff]) <;> (repeat (refine (aw_draw (by kernel_rfl)).2 ?_; simp -dsimp (disch := first | omega | (simp only [LR] <;> omega) | fail) only [push_cast, simprocAttr, -Nat.reduceSubDiff]))
  refine callC (timeOk ..) ?_
  cases c3 : inB f.now 0 1000000 with
  | false =>
    rw [c3, Bool.and_false, Bool.false_and, Bool.false_and] at hM
    (simp -dsimp (disch := first | omega | (simp only [hM, LR] <;> omega) | fail) only [push_cast, hM, simprocAttr, -Nat.reduceSubDiff]) <;> (repeat (refine (aw_draw (by kernel_rfl)).2 ?_; simp -dsimp (disch := first | omega | (simp only [hM, LR] <;> omega) | fail) only [push_cast, hM, simprocAttr, -Nat.reduceSubDiff]))
  | true =>
  rw [c3, Bool.and_true] at hM
  by_cases c4 : 1 ≤ f.Q.length
  rotate_left
  · rw [show inB f.Q.length 1 5 = false by unfold inB; exact decide_eq_false (by omega), Bool.and_false, Bool.false_and] at hM
    (simp -dsimp (disch := first | omega | (simp only [hM, LR] <;> omega) | fail) only [push_cast, hM, simprocAttr, -Nat.reduceSubDiff]) <;> (repeat (refine (aw_draw (by kernel_rfl)).2 ?_; simp -dsimp (disch := first | omega | (simp only [hM, LR] <;> omega) | fail) only [push_cast, hM, simprocAttr, -Nat.reduceSubDiff]))
  by_cases c5 : f.Q.length ≤ 5
  rotate_left
  · rw [show inB f.Q.length 1 5 = false by unfold inB; exact decide_eq_false (by omega), Bool.and_false, Bool.false_and] at hM
    (simp -dsimp (disch := first | omega | (simp only [hM, LR] <;> omega) | fail) only [push_cast, hM, simprocAttr, -Nat.reduceSubDiff]) <;> (repeat (refine (aw_draw (by kernel_rfl)).2 ?_; simp -dsimp (disch := first | omega | (simp only [hM, LR] <;> omega) | fail) only [push_cast, hM, simprocAttr, -Nat.reduceSubDiff]))
  rw [show inB f.Q.length 1 5 = true by unfold inB; exact decide_eq_true (by omega), Bool.and_true] at hM
  (simp -dsimp (disch := first | omega | (simp only [LR] <;> omega) | fail) only [push_cast, simprocAttr, -Nat.reduceSubDiff]) <;> (repeat (refine (aw_draw (by kernel_rfl)).2 ?_; simp -dsimp (disch := first | omega | (simp only [LR] <;> omega) | fail) only [push_cast, simprocAttr, -Nat.reduceSubDiff]))
  refine callC (pinned f.st f.nm hf.2.1 (asc_parts hasc _)) ?_
  rw [hasS_inL hasc]
  cases c2 : inL f.st.P f.nm with
  | false =>
    rw [c2, Bool.false_and] at hM
    (simp -dsimp (disch := first | omega | (simp only [hM, LR] <;> omega) | fail) only [push_cast, hM, simprocAttr, -Nat.reduceSubDiff]) <;> (repeat (refine (aw_draw (by kernel_rfl)).2 ?_; simp -dsimp (disch := first | omega | (simp only [hM, LR] <;> omega) | fail) only [push_cast, hM, simprocAttr, -Nat.reduceSubDiff]))
  | true =>
  rw [c2, Bool.true_and] at hM
  (simp -dsimp (disch := first | omega | (simp only [LR] <;> omega) | fail) only [push_cast, simprocAttr, -Nat.reduceSubDiff]) <;> (repeat (refine (aw_draw (by kernel_rfl)).2 ?_; simp -dsimp (disch := first | omega | (simp only [LR] <;> omega) | fail) only [push_cast, simprocAttr, -Nat.reduceSubDiff]))
  refine loop_ind (α := Nat) (fun i => i ≤ f.Q.length ∧ M = (f.Q.drop i).all (peerB f.st.w f.now)) (fun i => ⟨[(1, .pt 1 0 0), (5, .sc (.int .i64 f.st.w)), (44, .sl false 5 (f.Q.map (peerC false))), (45, .sc (.int .i64 f.Q.length)), (46, .sc (.int .i64 i))], [(1, .bx (fetchC false f))], 2⟩) (fun i => f.Q.length - i) 0 ⟨Nat.zero_le _, hM⟩ ?_ ?_
  · simp -dsimp (disch := first | omega | (simp only [LR] <;> omega) | fail) only [push_cast, simprocAttr, -Nat.reduceSubDiff]
  clear hM
  rintro i ⟨hi, hM⟩ ih
  by_cases h : i < f.Q.length
  rotate_left
  · rw [List.drop_eq_nil_of_le (by omega), List.all_nil] at hM
    (simp -dsimp (disch := first | omega | (simp only [hM, LR] <;> omega) | fail) only [push_cast, hM, simprocAttr, -Nat.reduceSubDiff]) <;> (repeat (refine (aw_draw (by kernel_rfl)).2 ?_; simp -dsimp (disch := first | omega | (simp only [hM, LR] <;> omega) | fail) only [push_cast, hM, simprocAttr, -Nat.reduceSubDiff]))
  obtain ⟨p, hx⟩ := ex_get h
  have hpN := (hf.2.2.2 p (List.mem_of_getElem? hx)).2.1
  rw [all_drop hx] at hM
  have bad : peerB f.st.w f.now p = false → M = false := fun h => by rw [hM, h, Bool.false_and]
  by_cases a1 : 0 ≤ p.lies
  rotate_left
  · have := bad (by rw [peerB, inB_def p.lies, decide_eq_false a1]; simp)
    (simp -dsimp (disch := first | omega | (simp only [hx, this, LR] <;> omega) | fail) only [push_cast, hx, this, simprocAttr, -Nat.reduceSubDiff]) <;> (repeat (refine (aw_draw (by kernel_rfl)).2 ?_; simp -dsimp (disch := first | omega | (simp only [hx, this, LR] <;> omega) | fail) only [push_cast, hx, this, simprocAttr, -Nat.reduceSubDiff]))
  by_cases a2 : p.lies ≤ 3
  rotate_left
  · have := bad (by rw [peerB, inB_def p.lies, decide_eq_false a2]; simp)
    (simp -dsimp (disch := first | omega | (simp only [hx, this, LR] <;> omega) | fail) only [push_cast, hx, this, simprocAttr, -Nat.reduceSubDiff]) <;> (repeat (refine (aw_draw (by kernel_rfl)).2 ?_; simp -dsimp (disch := first | omega | (simp only [hx, this, LR] <;> omega) | fail) only [push_cast, hx, this, simprocAttr, -Nat.reduceSubDiff]))
  by_cases a3 : 0 ≤ p.wait
  rotate_left
  · have := bad (by rw [peerB, inB_def p.wait, decide_eq_false a3]; simp)
    (simp -dsimp (disch := first | omega | (simp only [hx, this, LR] <;> omega) | fail) only [push_cast, hx, this, simprocAttr, -Nat.reduceSubDiff]) <;> (repeat (refine (aw_draw (by kernel_rfl)).2 ?_; simp -dsimp (disch := first | omega | (simp only [hx, this, LR] <;> omega) | fail) only [push_cast, hx, this, simprocAttr, -Nat.reduceSubDiff]))
  by_cases a4 : p.wait ≤ 5
  rotate_left
  · have := bad (by rw [peerB, inB_def p.wait, decide_eq_false a4]; simp)
    (simp -dsimp (disch := first | omega | (simp only [hx, this, LR] <;> omega) | fail) only [push_cast, hx, this, simprocAttr, -Nat.reduceSubDiff]) <;> (repeat (refine (aw_draw (by kernel_rfl)).2 ?_; simp -dsimp (disch := first | omega | (simp only [hx, this, LR] <;> omega) | fail) only [push_cast, hx, this, simprocAttr, -Nat.reduceSubDiff]))
  by_cases a5 : -1 ≤ p.last
  rotate_left
  · have := bad (by rw [peerB, inB_def p.last, decide_eq_false a5]; simp)
    (simp -dsimp (disch := first | omega | (simp only [hx, this, LR] <;> omega) | fail) only [push_cast, hx, this, simprocAttr, -Nat.reduceSubDiff]) <;> (repeat (refine (aw_draw (by kernel_rfl)).2 ?_; simp -dsimp (disch := first | omega | (simp only [hx, this, LR] <;> omega) | fail) only [push_cast, hx, this, simprocAttr, -Nat.reduceSubDiff]))
  by_cases a6 : p.last ≤ f.now
  rotate_left
  · have := bad (by rw [peerB, inB_def p.last, decide_eq_false a6]; simp)
    (simp -dsimp (disch := first | omega | (simp only [hx, this, LR] <;> omega) | fail) only [push_cast, hx, this, simprocAttr, -Nat.reduceSubDiff]) <;> (repeat (refine (aw_draw (by kernel_rfl)).2 ?_; simp -dsimp (disch := first | omega | (simp only [hx, this, LR] <;> omega) | fail) only [push_cast, hx, this, simprocAttr, -Nat.reduceSubDiff]))
  by_cases a7 : p.N.length ≤ 376
  rotate_left
  · have := bad (by simp [peerB, a7])
    (simp -dsimp (disch := first | omega | (simp only [hx, this, LR] <;> omega) | fail) only [push_cast, hx, this, simprocAttr, -Nat.reduceSubDiff]) <;> (repeat (refine (aw_draw (by kernel_rfl)).2 ?_; simp -dsimp (disch := first | omega | (simp only [hx, this, LR] <;> omega) | fail) only [push_cast, hx, this, simprocAttr, -Nat.reduceSubDiff]))
  have hpb : peerB f.st.w f.now p = (askB f.st.w p.wait p.ask && ascF f.st.w none p.N) := by
    rw [peerB, inB_def p.lies, inB_def p.wait, inB_def p.last, decide_eq_true a1, decide_eq_true a2, decide_eq_true a3, decide_eq_true a4, decide_eq_true a5, decide_eq_true a6, decide_eq_true a7]; rfl
  (simp -dsimp (disch := first | omega | (simp only [hx, LR] <;> omega) | fail) only [push_cast, hx, simprocAttr, -Nat.reduceSubDiff]) <;> (repeat (refine (aw_draw (by kernel_rfl)).2 ?_; simp -dsimp (disch := first | omega | (simp only [hx, LR] <;> omega) | fail) only [push_cast, hx, simprocAttr, -Nat.reduceSubDiff]))
  refine callC (ascending p.N f.st.w hpN) ?_
  cases a8 : ascF f.st.w none p.N with
  | false =>
    have := bad (by rw [hpb, a8, Bool.and_false])
    (simp -dsimp (disch := first | omega | (simp only [this, LR] <;> omega) | fail) only [push_cast, this, simprocAttr, -Nat.reduceSubDiff]) <;> (repeat (refine (aw_draw (by kernel_rfl)).2 ?_; simp -dsimp (disch := first | omega | (simp only [this, LR] <;> omega) | fail) only [push_cast, this, simprocAttr, -Nat.reduceSubDiff]))
  | true =>
  rw [hpb, a8, Bool.and_true] at hM
  by_cases hw : p.wait = 0
  · by_cases h2 : p.ask = ⟨#[]⟩
    · rw [show askB f.st.w p.wait p.ask = true by rw [hw, h2]; rfl, Bool.true_and] at hM
      (simp -dsimp (disch := first | omega | (simp only [hw, h2, LR] <;> omega) | fail) only [push_cast, hw, h2, simprocAttr, -Nat.reduceSubDiff]) <;> (repeat (refine (aw_draw (by kernel_rfl)).2 ?_; simp -dsimp (disch := first | omega | (simp only [hw, h2, LR] <;> omega) | fail) only [push_cast, hw, h2, simprocAttr, -Nat.reduceSubDiff]))
      refine ih (i + 1) _ (by omega) ⟨h, hM⟩ ?_
      simp -dsimp (disch := first | omega | (simp only [wr_id, LR] <;> omega) | fail) only [push_cast, wr_id, simprocAttr, -Nat.reduceSubDiff]
    · rw [show askB f.st.w p.wait p.ask = false by rw [hw]; unfold askB; simp [em, h2], Bool.false_and] at hM
      (simp -dsimp (disch := first | omega | (simp only [hw, h2, hM, LR] <;> omega) | fail) only [push_cast, hw, h2, hM, simprocAttr, -Nat.reduceSubDiff]) <;> (repeat (refine (aw_draw (by kernel_rfl)).2 ?_; simp -dsimp (disch := first | omega | (simp only [hw, h2, hM, LR] <;> omega) | fail) only [push_cast, hw, h2, hM, simprocAttr, -Nat.reduceSubDiff]))
  · have hw2 : 0 < p.wait := by omega
    by_cases h2 : (p.ask.size : Int) = f.st.w
    · rw [show askB f.st.w p.wait p.ask = true by unfold askB; rw [decide_eq_true hw2, cond_true]; exact decide_eq_true h2, Bool.true_and] at hM
      (simp -dsimp (disch := first | omega | (simp only [hw, h2, LR] <;> omega) | fail) only [push_cast, hw, h2, simprocAttr, -Nat.reduceSubDiff]) <;> (repeat (refine (aw_draw (by kernel_rfl)).2 ?_; simp -dsimp (disch := first | omega | (simp only [hw, h2, LR] <;> omega) | fail) only [push_cast, hw, h2, simprocAttr, -Nat.reduceSubDiff]))
      refine ih (i + 1) _ (by omega) ⟨h, hM⟩ ?_
      simp -dsimp (disch := first | omega | (simp only [wr_id, LR] <;> omega) | fail) only [push_cast, wr_id, simprocAttr, -Nat.reduceSubDiff]
    · rw [show askB f.st.w p.wait p.ask = false by unfold askB; rw [decide_eq_true hw2, cond_true]; exact decide_eq_false h2, Bool.false_and] at hM
      (simp -dsimp (disch := first | omega | (simp only [hw, h2, hM, LR] <;> omega) | fail) only [push_cast, hw, h2, hM, simprocAttr, -Nat.reduceSubDiff]) <;> (repeat (refine (aw_draw (by kernel_rfl)).2 ?_; simp -dsimp (disch := first | omega | (simp only [hw, h2, hM, LR] <;> omega) | fail) only [push_cast, hw, h2, hM, simprocAttr, -Nat.reduceSubDiff]))
end Go.Proofs.YtkkmgjhfjhcdmaaGreatDoor.Mx

/- Fetches copied; new worlds. -/
namespace Go.Proofs.YtkkmgjhfjhcdmaaGreatDoor.Mx
set_option linter.all false
open Go Go.RowKit Go.Proofs
set_option linter.unusedSimpArgs false
theorem len_take_le {α : Type} (l : List α) {i : Nat} (h : i ≤ l.length) : (l.take i).length = i := by rw [List.length_take]; omega
def E84 : Env := { T := T0, kp := look [(0, [0]), (1, [1, 2]), (2, [1, 2, 3]), (3, [1, 2, 3, 4]), (4, [1, 2, 3, 4]), (5, [1, 2, 3, 4]), (6, [1, 2, 3, 4, 5]), (7, [1, 2, 3, 4, 5]), (8, [2, 3])], dp := look2 [(1, [[], [0], [], [2], [], [4], [], [6], [6, 7], [0, 1, 2, 3, 4, 5, 6, 7, 8], [], [0, 1, 2, 3, 4, 5, 6, 7, 8, 9, 10]])] }
attribute [local push_cast] E84
set_option maxHeartbeats 1000000 in
theorem l7Copy (f : Fetch) (hf : okFetch f) : Does Tryz.prog 84 [.ag (fetchC false f)] (.ag (fetchC true f), []) := by
  refine does_of (E := E84) (rs := [.cell 2 53]) (lent := []) tOk rfl Tryz.func84 rfl (by decide) rfl rfl (Nat.le_of_ble_eq_true rfl) (Nat.le_of_ble_eq_true rfl) ?_
  have hl := hf.2.2.1
  obtain ⟨C, hC⟩ : ∃ C, C = fetchC true f := ⟨_, rfl⟩
  rw [← hC]
  (simp -dsimp (disch := first | omega | (simp only [LR] <;> omega) | fail) only [push_cast, simprocAttr, -Nat.reduceSubDiff]) <;> (repeat (refine (aw_draw (by kernel_rfl)).2 ?_; simp -dsimp (disch := first | omega | (simp only [LR] <;> omega) | fail) only [push_cast, simprocAttr, -Nat.reduceSubDiff]))
  refine callC (l4Copy f.st hf.2.1) ?_
  (simp -dsimp (disch := first | omega | (simp only [LR] <;> omega) | fail) only [push_cast, simprocAttr, -Nat.reduceSubDiff]) <;> (repeat (refine (aw_draw (by kernel_rfl)).2 ?_; simp -dsimp (disch := first | omega | (simp only [LR] <;> omega) | fail) only [push_cast, simprocAttr, -Nat.reduceSubDiff]))
  refine loop_ind (α := Nat) (fun i => i ≤ f.Q.length) (fun i => ⟨[(1, .pt 1 0 0), (2, .pt 2 0 0), (3, .pt 6 0 0), (4, .sc (.int .i64 i))],
    [(1, .bx (fetchC false f)), (2, .bx [.sc (.string ⟨#[]⟩), .sc (.int .i64 0), .sc (.bool false), .sc (.int .i64 0), .sc (.int .i64 0), .ow 3 0 0, .ow 4 0 0, .ow 5 0 0]), (3, .ar 2 0 []), (4, .ar 1 0 []), (5, .ar 5 0 []),
     (6, .bx [.sc (.string f.nm), .sc (.int .i64 f.now), .sc (.bool f.full), .sc (.int .i64 f.st.w), .sc (.int .i64 f.st.r), .ow 7 0 f.st.I.length, .ow 8 0 f.st.P.length, .ow 9 0 i]), (7, .ar 2 0 (f.st.I.map (itemC true))), (8, .ar 1 0 (f.st.P.map strR)), (9, .ar 5 0 ((f.Q.take i).map (peerC true)))], 10⟩) (fun i => f.Q.length - i) 0 (Nat.zero_le _) ?_ ?_
  · simp -dsimp (disch := first | omega | (simp only [List.take_zero, LR] <;> omega) | fail) only [push_cast, List.take_zero, simprocAttr, -Nat.reduceSubDiff]
  intro i hi ih
  by_cases h : i < f.Q.length
  · obtain ⟨p, hx⟩ := ex_get h
    have hpN := (hf.2.2.2 p (List.mem_of_getElem? hx)).2.1
    have hq := len_take_le f.Q hi
    have hst := take_step hx
    (simp -dsimp (disch := first | omega | (simp only [hx, hq, LR] <;> omega) | fail) only [push_cast, hx, hq, simprocAttr, -Nat.reduceSubDiff]) <;> (repeat (refine (aw_draw (by kernel_rfl)).2 ?_; simp -dsimp (disch := first | omega | (simp only [hx, hq, LR] <;> omega) | fail) only [push_cast, hx, hq, simprocAttr, -Nat.reduceSubDiff]))
    refine ih (i + 1) _ (by omega) h ?_
    simp -dsimp (disch := first | omega | (simp only [wr_id, hst, List.map_append, LR] <;> omega) | fail) only [push_cast, wr_id, hst, List.map_append, simprocAttr, -Nat.reduceSubDiff]
  · have ht : f.Q.take i = f.Q := List.take_of_length_le (by omega)
    have hi : i = f.Q.length := by omega
    (simp -dsimp (disch := first | omega | (simp only [ht, hi, hC, List.take_length, LR] <;> omega) | fail) only [push_cast, ht, hi, hC, List.take_length, simprocAttr, -Nat.reduceSubDiff]) <;> (repeat (refine (aw_draw (by kernel_rfl)).2 ?_; simp -dsimp (disch := first | omega | (simp only [ht, hi, hC, List.take_length, LR] <;> omega) | fail) only [push_cast, ht, hi, hC, List.take_length, simprocAttr, -Nat.reduceSubDiff]))
def E91 : Env := { T := T0, kp := look [(0, [0]), (1, [1, 2]), (2, [1, 2]), (3, [1, 2, 3]), (4, [1, 2, 3, 15, 16, 17]), (5, [1, 2, 3, 15, 16, 17]), (6, [1, 2, 3, 4, 5, 15, 16, 17]), (7, [1, 2, 3, 4, 5, 15, 16, 17]), (8, [1, 2, 3, 15, 16, 17]), (9, [1, 2, 3]), (10, [1, 2])] }
attribute [local push_cast] E91
set_option maxHeartbeats 1000000 in
theorem copyFetch (f : Fetch) (hf : okFetch f) : Does Tryz.prog 91 [.ag (fetchC false f)] (.ag (fetchC true f), []) := by
  refine does_of (E := E91) (rs := [.cell 2 53]) (lent := []) tOk rfl Tryz.func91 rfl (by decide) rfl rfl (Nat.le_of_ble_eq_true rfl) (Nat.le_of_ble_eq_true rfl) ?_
  have hl := hf.2.2.1
  obtain ⟨C, hC⟩ : ∃ C, C = fetchC true f := ⟨_, rfl⟩
  rw [← hC]
  (simp -dsimp (disch := first | omega | (simp only [LR] <;> omega) | fail) only [push_cast, simprocAttr, -Nat.reduceSubDiff]) <;> (repeat (refine (aw_draw (by kernel_rfl)).2 ?_; simp -dsimp (disch := first | omega | (simp only [LR] <;> omega) | fail) only [push_cast, simprocAttr, -Nat.reduceSubDiff]))
  refine callC (copyStore f.st hf.2.1) ?_
  obtain ⟨Z, hZ⟩ : ∃ Z : Peer, Z = ⟨0, 0, 0, em, []⟩ := ⟨_, rfl⟩
  (simp -dsimp (disch := first | omega | (simp only [LR] <;> omega) | fail) only [push_cast, simprocAttr, -Nat.reduceSubDiff]) <;> (repeat (refine (aw_draw (by kernel_rfl)).2 ?_; simp -dsimp (disch := first | omega | (simp only [LR] <;> omega) | fail) only [push_cast, simprocAttr, -Nat.reduceSubDiff]))
  refine loop_ind (α := Nat) (fun i => i ≤ f.Q.length) (fun i => ⟨[(1, .pt 1 0 0), (2, .pt 4 0 0), (3, .ow 8 0 f.Q.length), (15, .sl false 5 (f.Q.map (peerC false))), (16, .sc (.int .i64 f.Q.length)), (17, .sc (.int .i64 i))],
    [(1, .bx [.sc (.string f.nm), .sc (.int .i64 f.now), .sc (.bool f.full), .sc (.int .i64 f.st.w), .sc (.int .i64 f.st.r), .ow 2 0 f.st.I.length, .ow 3 0 f.st.P.length, .sl false 5 (f.Q.map (peerC false))]), (2, .ar 2 0 (f.st.I.map (itemC true))), (3, .ar 1 0 (f.st.P.map strR)),
     (4, .bx [.sc (.string ⟨#[]⟩), .sc (.int .i64 0), .sc (.bool false), .sc (.int .i64 0), .sc (.int .i64 0), .ow 5 0 0, .ow 6 0 0, .ow 7 0 0]), (5, .ar 2 0 []), (6, .ar 1 0 []), (7, .ar 5 0 []),
     (8, .ar 5 0 ((f.Q.take i ++ (List.replicate f.Q.length Z).drop i).map (peerC true)))], 9⟩) (fun i => f.Q.length - i) 0 (Nat.zero_le _) ?_ ?_
  · simp -dsimp (disch := first | omega | (simp only [List.take_zero, List.drop_zero, List.map_replicate, hZ, em, LR] <;> omega) | fail) only [push_cast, List.take_zero, List.drop_zero, List.map_replicate, hZ, em, simprocAttr, -Nat.reduceSubDiff]
  intro i hi ih
  by_cases h : i < f.Q.length
  · obtain ⟨p, hx⟩ := ex_get h
    have hpN := (hf.2.2.2 p (List.mem_of_getElem? hx)).2.1
    have hw := get_over (a := f.Q) (b := List.replicate f.Q.length Z) (by simp) hi
    rw [List.getElem?_replicate, if_pos h] at hw
    have ee := congrArg (List.map (peerC true)) (set_over (b := List.replicate f.Q.length Z) (by simp) hx)
    rw [List.map_set] at ee
    rw [show peerC true p = [.sc (.int .i64 p.lies), .sc (.int .i64 p.wait), .sc (.int .i64 p.last), .sc (.string p.ask), .sl true 1 (p.N.map strR)] from rfl] at ee
    (simp -dsimp (disch := first | omega | (simp only [hx, hw, LR] <;> omega) | fail) only [push_cast, hx, hw, simprocAttr, -Nat.reduceSubDiff]) <;> (repeat (refine (aw_draw (by kernel_rfl)).2 ?_; simp -dsimp (disch := first | omega | (simp only [hx, hw, LR] <;> omega) | fail) only [push_cast, hx, hw, simprocAttr, -Nat.reduceSubDiff]))
    refine ih (i + 1) _ (by omega) h ?_
    simp -dsimp (disch := first | omega | (simp only [wr_id, ee, LR] <;> omega) | fail) only [push_cast, wr_id, ee, simprocAttr, -Nat.reduceSubDiff]
  · have hi : i = f.Q.length := by omega
    subst hi
    (simp -dsimp (disch := first | omega | (simp only [hC, List.take_length, List.drop_eq_nil_of_le, LR] <;> omega) | fail) only [push_cast, hC, List.take_length, List.drop_eq_nil_of_le, simprocAttr, -Nat.reduceSubDiff]) <;> (repeat (refine (aw_draw (by kernel_rfl)).2 ?_; simp -dsimp (disch := first | omega | (simp only [hC, List.take_length, List.drop_eq_nil_of_le, LR] <;> omega) | fail) only [push_cast, hC, List.take_length, List.drop_eq_nil_of_le, simprocAttr, -Nat.reduceSubDiff]))
end Go.Proofs.YtkkmgjhfjhcdmaaGreatDoor.Mx

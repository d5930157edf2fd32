/- A machine over values for Go functions, proved sound, and functions run on it: texts F51, F47, F52, LSave. -/
import Derived.Test.YtgkncgiglmdnaaaGreatDoorShB
import Derived.Test.YtgkncgiglmdnaaaGreatDoorSaveXah
import Derived.Test.YtgkncgiglmdnaaaGreatDoorSaveXaj
import Derived.Test.YtgkncgiglmdnaaaGreatDoorSaveXak
import Derived.Test.YtgkncgiglmdnaaaGreatDoorSaveXal
import Derived.Test.YtgkncgiglmdnaaaGreatDoorSaveXan
/- Texts put into stores: the program. -/
namespace Go.Proofs.YtgkncgiglmdnaaaGreatDoor.Mx
set_option linter.all false
open Go Go.RowKit Go.Proofs
set_option linter.unusedSimpArgs false
theorem ins_rowsG {α : Type} (f : α → Row) (P : List α) (z : α) (i : Nat) (hi : i ≤ P.length) : ∃ x : α,
    List.take (i + 1) (P.map f ++ [f z]) ++ List.take (P.length - i) (seg (P.map f ++ [f z]) i (P.length + 1 - i)) ++
      List.drop (i + 1 + min (seg (P.map f ++ [f z]) i (P.length + 1 - i)).length (P.length - i)) (P.map f ++ [f z]) = (P.take i ++ x :: P.drop i).map f := by
  have e : P.map f ++ [f z] = (P ++ [z]).map f := by simp
  rw [e, seg_dr (P ++ [z]) f i (P.length + 1 - i) (by simp only [List.length_append, List.length_cons, List.length_nil]; omega)]
  obtain ⟨x, hx⟩ := ex_get (show i < (P ++ [z]).length by simp; omega)
  refine ⟨x, ?_⟩
  have t1 : (P ++ [z]).take (i + 1) = P.take i ++ [x] := by rw [take_step hx, List.take_append_of_le_length hi]
  have t2 : ((P ++ [z]).drop i).take (P.length - i) = P.drop i := by rw [List.drop_append_of_le_length hi, List.take_append_of_le_length (by rw [List.length_drop]; omega), List.take_of_length_le (by rw [List.length_drop]; omega)]
  have t3 : List.drop (i + 1 + min (((P ++ [z]).drop i).map f).length (P.length - i)) ((P ++ [z]).map f) = [] := List.drop_eq_nil_of_le (by simp only [List.length_map, List.length_append, List.length_drop, List.length_cons, List.length_nil]; omega)
  rw [← List.map_take, ← List.map_take, t1, t2, t3]
  simp
theorem flat_seg {r : List Row} (h : flatR r = true) (a n : Nat) : flatR (seg r a n) = true := by
  unfold flatR seg at *
  rw [List.all_eq_true] at *
  exact fun x hx => h x (List.mem_of_mem_drop (List.mem_of_mem_take hx))
theorem midG_get {α : Type} {a b : List α} {x : α} {i : Nat} (h : a.length = i) : (a ++ x :: b)[i]? = some x := by subst h; simp
theorem midG_set {α : Type} {a b : List α} {x y : α} {i : Nat} (h : a.length = i) : (a ++ x :: b).set i y = a ++ y :: b := by subst h; simp
def E43 : Env := { T := T0, kp := look [(0, [0, 1, 2]), (1, [1, 2, 3, 6]), (2, [6]), (3, [1, 2, 3, 6]), (4, [1, 2, 3, 6, 8]), (5, [1, 2, 3, 6, 8, 9]), (6, [1, 2, 3, 6, 8, 9, 10]), (7, [1, 2, 6, 8, 10]), (8, [6]), (9, [2, 6, 8, 10]), (10, [6, 8]), (11, [1, 2, 3, 6, 8, 9]), (12, [1, 2, 3, 6, 8, 9, 11]), (13, [1, 2, 3, 6, 8, 9, 11, 69, 70, 71]), (14, [1, 2, 3, 6, 8, 9, 11, 69, 70, 71]), (15, [1, 2, 3, 6, 8, 9, 11, 13, 69, 70, 71]), (16, [1, 2, 3, 6, 8, 9, 11, 69, 70, 71]), (17, [1, 2, 3, 6, 8, 9, 11]), (18, [1, 2, 3, 6, 8, 9, 11, 14]), (19, [1, 2, 3, 6, 8, 9, 11, 14, 79, 80, 81]), (20, [1, 2, 3, 6, 8, 9, 11, 14, 79, 80, 81]), (21, [1, 2, 3, 6, 8, 9, 11, 14, 16, 79, 80, 81]), (22, [1, 2, 3, 6, 8, 9, 11, 14, 79, 80, 81]), (23, [1, 2, 3, 6, 8, 9, 11, 14]), (24, [1, 2, 3, 6, 8, 9, 11, 14]), (25, [1, 2, 3, 6, 8, 9, 11, 14, 17]), (26, [1, 2, 3, 6, 8, 9, 11, 14, 17, 105, 106, 107]), (27, [1, 2, 3, 6, 8, 9, 11, 14, 17, 105, 106, 107]), (28, [1, 2, 3, 6, 8, 9, 11, 14, 17, 18, 19, 105, 106, 107]), (29, [1, 2, 3, 6, 8, 9, 11, 14, 18, 105, 106, 107]), (30, [1, 2, 3, 6, 8, 9, 11, 14, 17, 105, 106, 107]), (31, [1, 2, 3, 6, 8, 9, 11, 14, 17]), (32, [6]), (33, [1, 2, 3, 6, 8, 9, 11, 14, 17]), (34, [1, 2, 3, 6, 8, 9, 11, 14, 17]), (35, [1, 2, 3, 6, 8, 9]), (36, [1, 2, 3, 6, 8, 9, 20]), (37, [1, 2, 3, 6, 8, 9, 20]), (38, [1, 2, 6, 8, 20]), (39, [1, 2, 6, 8, 20]), (40, [1, 2, 6, 8, 20]), (41, [6, 8])], dp := look2 [(28, [[], [], [1], [], [3], [1, 2, 3, 4], [0, 1, 2, 3, 4, 5], [0, 1, 2, 3, 4, 5, 6], [0, 1, 2, 3, 4, 5, 6, 7], [0, 1, 2, 3, 4, 5, 6, 7, 8], [0, 1, 2, 3, 4, 5, 6, 7, 8, 9], [0, 1, 2, 3, 4, 5, 6, 7, 8, 9, 10], [0, 1, 2, 3, 4, 5, 6, 7, 8, 9, 10, 11], [0, 1, 2, 3, 4, 5, 6, 7, 8, 9, 10, 11, 12], [0, 1, 2, 3, 4, 5, 6, 7, 8, 9, 10, 11], [0, 1, 2, 3, 4, 5, 6, 7, 8, 9, 10, 11, 14], [0, 1, 2, 3, 4, 5, 6, 7, 8, 9, 10, 11], [0, 1, 2, 3, 4, 5, 6, 7, 8, 9, 10, 11, 14, 15, 16], [0, 1, 2, 3, 4, 5, 6, 7, 8, 9, 10, 11, 14, 15, 16, 17], [0, 1, 2, 3, 4, 5, 6, 7, 8, 9, 10, 11, 14, 15, 16, 17, 18], [0, 1, 2, 3, 4, 5, 6, 7, 8, 9, 10, 11, 12, 13, 14, 15, 16, 17, 18, 19], [0, 1, 2, 3, 4, 5, 6, 7, 8, 9, 10, 11, 12, 13, 14, 15, 16, 17, 18, 19, 20], [0, 1, 2, 3, 4, 5, 6, 7, 8, 9, 10, 11, 12, 13, 14, 15, 16, 17, 18, 19, 20, 21]]), (34, [[], [0], [], [0, 1, 2], [], [4], [], [6], [4, 5, 6, 7], [0, 1, 2, 3, 4, 5, 6, 7, 8], [0, 1, 2, 3, 4, 5, 6, 7, 8, 9], [0, 1, 2, 3, 4, 5, 6, 7, 8, 9, 10]]), (36, [[], [], [1], [1, 2], [0, 1, 2, 3], [0, 1, 2, 3, 4], [0, 1, 2, 3, 4, 5], [0, 1, 2, 3, 4, 5, 6], [0, 1, 2, 3, 4, 5], [0, 1, 2, 3, 4, 5, 6, 7, 8], [0, 1, 2, 3, 4, 5, 6, 7, 8, 9], [0, 1, 2, 3, 4, 5, 6, 7, 8, 9, 10], [0, 1, 2, 3, 4, 5], [0, 1, 2, 3, 4, 5, 12], [0, 1, 2, 3, 4, 5, 6, 7, 8, 9, 10, 11, 12, 13], [0, 1, 2, 3, 4, 5], [0, 1, 2, 3, 4, 5, 6, 7, 8, 9, 10, 11, 12, 13, 14, 15], [0, 1, 2, 3, 4, 5, 6, 7, 8, 9, 10, 11, 12, 13, 14, 15, 16]]), (39, [[], [0], [], [2], [0, 1, 2, 3], [], [5], [], [5, 6, 7], [0, 1, 2, 3, 4, 5, 6, 7, 8]])] }
attribute [local push_cast] E43
set_option maxRecDepth 20000 in
set_option maxHeartbeats 4000000 in
theorem implPut (s : Store) (t : Str) (now : Int) (hs : okStore s) (ht : t.size ≤ 2097152) : Does Tryz.prog 43 [.ag (storeC false s), .sc (.string t), .sc (.int .i64 now)] (.tu [.ag (storeC true (putF s t now).1), .sc (.int .i64 (putF s t now).2)], []) := by
  refine does_of (E := E43) (rs := [.cell 6 46, .tmp 7]) (lent := []) tOk rfl Tryz.func43 rfl (by decide) rfl rfl (Nat.le_of_ble_eq_true rfl) (Nat.le_of_ble_eq_true rfl) ?_
  obtain ⟨M, hM⟩ : ∃ M, M = putF s t now := ⟨_, rfl⟩
  rw [← hM]
  unfold putF at hM
  have hI := hs.1.1
  (simp -dsimp (disch := first | omega | (simp only [List.length_cons, List.length_nil, List.length_map, List.length_append, List.length_take, List.length_drop, List.length_replicate, List.length_set, mkG_len] <;> omega) | fail) only [push_cast, if_pos, decide_eq_true, decide_eq_false, simprocAttr, -Nat.reduceSubDiff]) <;> (repeat (refine (aw_draw (by kernel_rfl)).2 ?_; simp -dsimp (disch := first | omega | (simp only [List.length_cons, List.length_nil, List.length_map, List.length_append, List.length_take, List.length_drop, List.length_replicate, List.length_set, mkG_len] <;> omega) | fail) only [push_cast, if_pos, decide_eq_true, decide_eq_false, simprocAttr, -Nat.reduceSubDiff]))
  refine callC (implValidStore s hs) ?_
  cases hv : validSt s with
  | false =>
    rw [hv, Bool.false_and, Bool.false_and, if_pos rfl] at hM
    subst hM
    (simp -dsimp (disch := first | omega | (simp only [List.length_cons, List.length_nil, List.length_map, List.length_append, List.length_take, List.length_drop, List.length_replicate, List.length_set, mkG_len] <;> omega) | fail) only [push_cast, if_pos, decide_eq_true, decide_eq_false, simprocAttr, -Nat.reduceSubDiff]) <;> (repeat (refine (aw_draw (by kernel_rfl)).2 ?_; simp -dsimp (disch := first | omega | (simp only [List.length_cons, List.length_nil, List.length_map, List.length_append, List.length_take, List.length_drop, List.length_replicate, List.length_set, mkG_len] <;> omega) | fail) only [push_cast, if_pos, decide_eq_true, decide_eq_false, simprocAttr, -Nat.reduceSubDiff]))
    rfl
  | true =>
  by_cases z1 : t.size < 1
  · have hz : inB t.size 1 7000 = false := decide_eq_false (by omega)
    rw [hz, Bool.and_false, Bool.false_and, if_pos rfl] at hM
    subst hM
    (simp -dsimp (disch := first | omega | (simp only [List.length_cons, List.length_nil, List.length_map, List.length_append, List.length_take, List.length_drop, List.length_replicate, List.length_set, mkG_len] <;> omega) | fail) only [push_cast, if_pos, decide_eq_true, decide_eq_false, simprocAttr, -Nat.reduceSubDiff]) <;> (repeat (refine (aw_draw (by kernel_rfl)).2 ?_; simp -dsimp (disch := first | omega | (simp only [List.length_cons, List.length_nil, List.length_map, List.length_append, List.length_take, List.length_drop, List.length_replicate, List.length_set, mkG_len] <;> omega) | fail) only [push_cast, if_pos, decide_eq_true, decide_eq_false, simprocAttr, -Nat.reduceSubDiff]))
    rfl
  by_cases z2 : 7000 < t.size
  · have hz : inB t.size 1 7000 = false := decide_eq_false (by omega)
    rw [hz, Bool.and_false, Bool.false_and, if_pos rfl] at hM
    subst hM
    (simp -dsimp (disch := first | omega | (simp only [List.length_cons, List.length_nil, List.length_map, List.length_append, List.length_take, List.length_drop, List.length_replicate, List.length_set, mkG_len] <;> omega) | fail) only [push_cast, if_pos, decide_eq_true, decide_eq_false, simprocAttr, -Nat.reduceSubDiff]) <;> (repeat (refine (aw_draw (by kernel_rfl)).2 ?_; simp -dsimp (disch := first | omega | (simp only [List.length_cons, List.length_nil, List.length_map, List.length_append, List.length_take, List.length_drop, List.length_replicate, List.length_set, mkG_len] <;> omega) | fail) only [push_cast, if_pos, decide_eq_true, decide_eq_false, simprocAttr, -Nat.reduceSubDiff]))
    rfl
  have hz : inB t.size 1 7000 = true := decide_eq_true (by omega)
  (simp -dsimp (disch := first | omega | (simp only [List.length_cons, List.length_nil, List.length_map, List.length_append, List.length_take, List.length_drop, List.length_replicate, List.length_set, mkG_len] <;> omega) | fail) only [push_cast, if_pos, decide_eq_true, decide_eq_false, simprocAttr, -Nat.reduceSubDiff]) <;> (repeat (refine (aw_draw (by kernel_rfl)).2 ?_; simp -dsimp (disch := first | omega | (simp only [List.length_cons, List.length_nil, List.length_map, List.length_append, List.length_take, List.length_drop, List.length_replicate, List.length_set, mkG_len] <;> omega) | fail) only [push_cast, if_pos, decide_eq_true, decide_eq_false, simprocAttr, -Nat.reduceSubDiff]))
  refine callC (timeOk now) ?_
  cases hn : inB now 0 1000000 with
  | false =>
    rw [hn, Bool.and_false, if_pos rfl] at hM
    subst hM
    (simp -dsimp (disch := first | omega | (simp only [List.length_cons, List.length_nil, List.length_map, List.length_append, List.length_take, List.length_drop, List.length_replicate, List.length_set, mkG_len] <;> omega) | fail) only [push_cast, if_pos, decide_eq_true, decide_eq_false, simprocAttr, -Nat.reduceSubDiff]) <;> (repeat (refine (aw_draw (by kernel_rfl)).2 ?_; simp -dsimp (disch := first | omega | (simp only [List.length_cons, List.length_nil, List.length_map, List.length_append, List.length_take, List.length_drop, List.length_replicate, List.length_set, mkG_len] <;> omega) | fail) only [push_cast, if_pos, decide_eq_true, decide_eq_false, simprocAttr, -Nat.reduceSubDiff]))
    rfl
  | true =>
  rw [if_neg (by rw [hv, hz, hn]; simp)] at hM
  have hP := valid_P hv
  (simp -dsimp (disch := first | omega | (simp only [List.length_cons, List.length_nil, List.length_map, List.length_append, List.length_take, List.length_drop, List.length_replicate, List.length_set, mkG_len] <;> omega) | fail) only [push_cast, if_pos, decide_eq_true, decide_eq_false, simprocAttr, -Nat.reduceSubDiff]) <;> (repeat (refine (aw_draw (by kernel_rfl)).2 ?_; simp -dsimp (disch := first | omega | (simp only [List.length_cons, List.length_nil, List.length_map, List.length_append, List.length_take, List.length_drop, List.length_replicate, List.length_set, mkG_len] <;> omega) | fail) only [push_cast, if_pos, decide_eq_true, decide_eq_false, simprocAttr, -Nat.reduceSubDiff]))
  refine callC (copyStore s hs) ?_
  (simp -dsimp (disch := first | omega | (simp only [List.length_cons, List.length_nil, List.length_map, List.length_append, List.length_take, List.length_drop, List.length_replicate, List.length_set, mkG_len] <;> omega) | fail) only [push_cast, if_pos, decide_eq_true, decide_eq_false, simprocAttr, -Nat.reduceSubDiff]) <;> (repeat (refine (aw_draw (by kernel_rfl)).2 ?_; simp -dsimp (disch := first | omega | (simp only [List.length_cons, List.length_nil, List.length_map, List.length_append, List.length_take, List.length_drop, List.length_replicate, List.length_set, mkG_len] <;> omega) | fail) only [push_cast, if_pos, decide_eq_true, decide_eq_false, simprocAttr, -Nat.reduceSubDiff]))
  refine callC (implSum t s.w (by omega)) ?_
  obtain ⟨u, hu⟩ : ∃ u, u = sumS t s.w := ⟨_, rfl⟩
  rw [← hu] at hM ⊢
  (simp -dsimp (disch := first | omega | (simp only [List.length_cons, List.length_nil, List.length_map, List.length_append, List.length_take, List.length_drop, List.length_replicate, List.length_set, mkG_len] <;> omega) | fail) only [push_cast, if_pos, decide_eq_true, decide_eq_false, simprocAttr, -Nat.reduceSubDiff]) <;> (repeat (refine (aw_draw (by kernel_rfl)).2 ?_; simp -dsimp (disch := first | omega | (simp only [List.length_cons, List.length_nil, List.length_map, List.length_append, List.length_take, List.length_drop, List.length_replicate, List.length_set, mkG_len] <;> omega) | fail) only [push_cast, if_pos, decide_eq_true, decide_eq_false, simprocAttr, -Nat.reduceSubDiff]))
  refine callC (find s u hs) ?_
  by_cases hat : 0 ≤ atI s.w u s.I
  · rw [if_pos hat] at hM
    obtain ⟨i, x, h1, h2, _⟩ := at_get hat
    have hil := (List.getElem?_eq_some_iff.1 h2).1
    rw [textAt_some h1 h2, h1, Int.toNat_natCast] at hM
    rw [h1]
    by_cases he : x.t = t
    · rw [if_pos he] at hM
      subst hM
      (simp -dsimp (disch := first | omega | (simp only [h2, he, set_item, List.length_cons, List.length_nil, List.length_map, List.length_append, List.length_take, List.length_drop, List.length_replicate, List.length_set, mkG_len] <;> omega) | fail) only [push_cast, if_pos, decide_eq_true, decide_eq_false, h2, he, set_item, simprocAttr, -Nat.reduceSubDiff]) <;> (repeat (refine (aw_draw (by kernel_rfl)).2 ?_; simp -dsimp (disch := first | omega | (simp only [h2, he, set_item, List.length_cons, List.length_nil, List.length_map, List.length_append, List.length_take, List.length_drop, List.length_replicate, List.length_set, mkG_len] <;> omega) | fail) only [push_cast, if_pos, decide_eq_true, decide_eq_false, h2, he, set_item, simprocAttr, -Nat.reduceSubDiff]))
    · rw [if_neg he] at hM
      subst hM
      (simp -dsimp (disch := first | omega | (simp only [h2, he, List.length_cons, List.length_nil, List.length_map, List.length_append, List.length_take, List.length_drop, List.length_replicate, List.length_set, mkG_len] <;> omega) | fail) only [push_cast, if_pos, decide_eq_true, decide_eq_false, h2, he, simprocAttr, -Nat.reduceSubDiff]) <;> (repeat (refine (aw_draw (by kernel_rfl)).2 ?_; simp -dsimp (disch := first | omega | (simp only [h2, he, List.length_cons, List.length_nil, List.length_map, List.length_append, List.length_take, List.length_drop, List.length_replicate, List.length_set, mkG_len] <;> omega) | fail) only [push_cast, if_pos, decide_eq_true, decide_eq_false, h2, he, simprocAttr, -Nat.reduceSubDiff]))
      rfl
  rw [if_neg hat] at hM
  (simp -dsimp (disch := first | omega | (simp only [hat, List.length_cons, List.length_nil, List.length_map, List.length_append, List.length_take, List.length_drop, List.length_replicate, List.length_set, mkG_len] <;> omega) | fail) only [push_cast, if_pos, decide_eq_true, decide_eq_false, hat, simprocAttr, -Nat.reduceSubDiff]) <;> (repeat (refine (aw_draw (by kernel_rfl)).2 ?_; simp -dsimp (disch := first | omega | (simp only [hat, List.length_cons, List.length_nil, List.length_map, List.length_append, List.length_take, List.length_drop, List.length_replicate, List.length_set, mkG_len] <;> omega) | fail) only [push_cast, if_pos, decide_eq_true, decide_eq_false, hat, simprocAttr, -Nat.reduceSubDiff]))
  refine callC (implNeeded0 s hs hP) ?_
  have hNl := needL_len hP
  rw [show (nmsL s).foldl addS [] = needL s from rfl]
  generalize needL s = N at hM hNl ⊢
  (simp -dsimp (disch := first | omega | (simp only [List.length_cons, List.length_nil, List.length_map, List.length_append, List.length_take, List.length_drop, List.length_replicate, List.length_set, mkG_len] <;> omega) | fail) only [push_cast, if_pos, decide_eq_true, decide_eq_false, simprocAttr, -Nat.reduceSubDiff]) <;> (repeat (refine (aw_draw (by kernel_rfl)).2 ?_; simp -dsimp (disch := first | omega | (simp only [List.length_cons, List.length_nil, List.length_map, List.length_append, List.length_take, List.length_drop, List.length_replicate, List.length_set, mkG_len] <;> omega) | fail) only [push_cast, if_pos, decide_eq_true, decide_eq_false, simprocAttr, -Nat.reduceSubDiff]))
  refine loop_ind (α := Nat) (fun i => i ≤ N.length)
    (fun i => ⟨[(1, .sc (.string t)), (2, .sc (.int .i64 now)), (3, .pt 1 0 0), (6, .pt 2 0 0), (8, .pt 5 0 0), (9, .sc (.string u)), (11, .mv 8), (69, .ow 9 0 N.length), (70, .sc (.int .i64 N.length)), (71, .sc (.int .i64 i))],
      [(1, .bx (storeC false s)), (2, .bx [.sc (.int .i64 0), .sc (.int .i64 0), .ow 3 0 0, .ow 4 0 0]), (3, .ar 2 0 []), (4, .ar 1 0 []), (5, .bx [.sc (.int .i64 s.w), .sc (.int .i64 s.r), .ow 6 0 s.I.length, .ow 7 0 s.P.length]), (6, .ar 2 0 (s.I.map (itemC true))), (7, .ar 1 0 (s.P.map strR)), (8, .mp 0 (mset (N.take i))), (9, .ar 1 0 (N.map strR))], 10⟩) (fun i => N.length - i) 0 (Nat.zero_le _) ?_ ?_
  · simp -dsimp (disch := first | omega | (simp only [mset, List.take_zero, List.foldl_nil, List.length_cons, List.length_nil, List.length_map, List.length_append, List.length_take, List.length_drop, List.length_replicate, List.length_set, mkG_len] <;> omega) | fail) only [push_cast, if_pos, decide_eq_true, decide_eq_false, mset, List.take_zero, List.foldl_nil, simprocAttr, -Nat.reduceSubDiff]
  intro i hi ih
  by_cases h : i < N.length
  · obtain ⟨x, hx⟩ := ex_get h
    have hk := mok_kok (mset_mok (N.take i))
    have hst := mset_step hx
    generalize mset (N.take i) = E at *
    (simp -dsimp (disch := first | omega | (simp only [h, hx, pMapSet, hk.1, kkey, List.length_cons, List.length_nil, List.length_map, List.length_append, List.length_take, List.length_drop, List.length_replicate, List.length_set, mkG_len] <;> omega) | fail) only [push_cast, if_pos, decide_eq_true, decide_eq_false, h, hx, pMapSet, hk.1, kkey, simprocAttr, -Nat.reduceSubDiff]) <;> (repeat (refine (aw_draw (by kernel_rfl)).2 ?_; simp -dsimp (disch := first | omega | (simp only [h, hx, pMapSet, hk.1, kkey, List.length_cons, List.length_nil, List.length_map, List.length_append, List.length_take, List.length_drop, List.length_replicate, List.length_set, mkG_len] <;> omega) | fail) only [push_cast, if_pos, decide_eq_true, decide_eq_false, h, hx, pMapSet, hk.1, kkey, simprocAttr, -Nat.reduceSubDiff]))
    refine ih (i + 1) _ (by omega) h ?_
    rw [hst]
    simp -dsimp (disch := first | omega | (simp only [wr_id, List.length_cons, List.length_nil, List.length_map, List.length_append, List.length_take, List.length_drop, List.length_replicate, List.length_set, mkG_len] <;> omega) | fail) only [push_cast, if_pos, decide_eq_true, decide_eq_false, wr_id, simprocAttr, -Nat.reduceSubDiff]
  rw [show N.take i = N from List.take_of_length_le (by omega)]
  clear ih
  (simp -dsimp (disch := first | omega | (simp only [h, List.length_cons, List.length_nil, List.length_map, List.length_append, List.length_take, List.length_drop, List.length_replicate, List.length_set, mkG_len] <;> omega) | fail) only [push_cast, if_pos, decide_eq_true, decide_eq_false, h, simprocAttr, -Nat.reduceSubDiff]) <;> (repeat (refine (aw_draw (by kernel_rfl)).2 ?_; simp -dsimp (disch := first | omega | (simp only [h, List.length_cons, List.length_nil, List.length_map, List.length_append, List.length_take, List.length_drop, List.length_replicate, List.length_set, mkG_len] <;> omega) | fail) only [push_cast, if_pos, decide_eq_true, decide_eq_false, h, simprocAttr, -Nat.reduceSubDiff]))
  refine loop_ind (α := Nat) (fun i => i ≤ s.I.length)
    (fun i => ⟨[(1, .sc (.string t)), (2, .sc (.int .i64 now)), (3, .pt 1 0 0), (6, .pt 2 0 0), (8, .pt 5 0 0), (9, .sc (.string u)), (11, .mv 8), (14, .sc (.int .i64 (bytes (s.I.take i)))), (79, .ow 6 0 s.I.length), (80, .sc (.int .i64 s.I.length)), (81, .sc (.int .i64 i))],
      [(1, .bx (storeC false s)), (2, .bx [.sc (.int .i64 0), .sc (.int .i64 0), .ow 3 0 0, .ow 4 0 0]), (3, .ar 2 0 []), (4, .ar 1 0 []), (5, .bx [.sc (.int .i64 s.w), .sc (.int .i64 s.r), .ow 6 0 s.I.length, .ow 7 0 s.P.length]), (6, .ar 2 0 (s.I.map (itemC true))), (7, .ar 1 0 (s.P.map strR)), (8, .mp 0 (mset N))], 9⟩) (fun i => s.I.length - i) 0 (Nat.zero_le _) ?_ ?_
  · simp -dsimp (disch := first | omega | (simp only [List.take_zero, bytes, List.length_cons, List.length_nil, List.length_map, List.length_append, List.length_take, List.length_drop, List.length_replicate, List.length_set, mkG_len] <;> omega) | fail) only [push_cast, if_pos, decide_eq_true, decide_eq_false, List.take_zero, bytes, simprocAttr, -Nat.reduceSubDiff]
  intro i2 hi2 ih
  by_cases h2 : i2 < s.I.length
  · obtain ⟨x, hx⟩ := ex_get h2
    have hbt := bytes_le hs.1
    have b1 := bytes_app (s.I.take (i2 + 1)) (s.I.drop (i2 + 1))
    have b2 := bytes_app (s.I.take i2) [x]
    rw [← take_step hx, bytes, bytes] at b2
    rw [List.take_append_drop] at b1
    have b3 := bytes_nn (s.I.drop (i2 + 1))
    have b4 := bytes_nn (s.I.take i2)
    (simp -dsimp (disch := first | omega | (simp only [h2, hx, wr_id, List.length_cons, List.length_nil, List.length_map, List.length_append, List.length_take, List.length_drop, List.length_replicate, List.length_set, mkG_len] <;> omega) | fail) only [push_cast, if_pos, decide_eq_true, decide_eq_false, h2, hx, wr_id, simprocAttr, -Nat.reduceSubDiff]) <;> (repeat (refine (aw_draw (by kernel_rfl)).2 ?_; simp -dsimp (disch := first | omega | (simp only [h2, hx, wr_id, List.length_cons, List.length_nil, List.length_map, List.length_append, List.length_take, List.length_drop, List.length_replicate, List.length_set, mkG_len] <;> omega) | fail) only [push_cast, if_pos, decide_eq_true, decide_eq_false, h2, hx, wr_id, simprocAttr, -Nat.reduceSubDiff]))
    refine ih (i2 + 1) _ (by omega) h2 ?_
    rw [b2]
    simp -dsimp (disch := first | omega | (simp only [wr_id, Int.add_zero, List.length_cons, List.length_nil, List.length_map, List.length_append, List.length_take, List.length_drop, List.length_replicate, List.length_set, mkG_len] <;> omega) | fail) only [push_cast, if_pos, decide_eq_true, decide_eq_false, wr_id, Int.add_zero, simprocAttr, -Nat.reduceSubDiff]
  rw [show s.I.take i2 = s.I from List.take_of_length_le (by omega)]
  clear ih
  (simp -dsimp (disch := first | omega | (simp only [h2, List.length_cons, List.length_nil, List.length_map, List.length_append, List.length_take, List.length_drop, List.length_replicate, List.length_set, mkG_len] <;> omega) | fail) only [push_cast, if_pos, decide_eq_true, decide_eq_false, h2, simprocAttr, -Nat.reduceSubDiff]) <;> (repeat (refine (aw_draw (by kernel_rfl)).2 ?_; simp -dsimp (disch := first | omega | (simp only [h2, List.length_cons, List.length_nil, List.length_map, List.length_append, List.length_take, List.length_drop, List.length_replicate, List.length_set, mkG_len] <;> omega) | fail) only [push_cast, if_pos, decide_eq_true, decide_eq_false, h2, simprocAttr, -Nat.reduceSubDiff]))
  obtain ⟨E, hE⟩ : ∃ E, E = evF s.w s.r N t.size s.I := ⟨_, rfl⟩
  rw [← hE] at hM
  have hk := mok_kok (mset_mok N)
  have hk2 := hk.2
  simp only [plain] at hk2
  refine loop_ind (α := List Item) (fun J => okL okItem J ∧ evF s.w s.r N t.size J = E)
    (fun J => ⟨[(1, .sc (.string t)), (2, .sc (.int .i64 now)), (3, .pt 1 0 0), (6, .pt 2 0 0), (8, .pt 5 0 0), (9, .sc (.string u)), (11, .mv 8), (14, .sc (.int .i64 (bytes J)))],
      [(1, .bx (storeC false s)), (2, .bx [.sc (.int .i64 0), .sc (.int .i64 0), .ow 3 0 0, .ow 4 0 0]), (3, .ar 2 0 []), (4, .ar 1 0 []), (5, .bx [.sc (.int .i64 s.w), .sc (.int .i64 s.r), .ow 6 0 J.length, .ow 7 0 s.P.length]), (6, .ar 2 0 (J.map (itemC true))), (7, .ar 1 0 (s.P.map strR)), (8, .mp 0 (mset N))], 9⟩) (fun J => J.length) s.I ⟨hs.1, hE.symm⟩ ?_ ?_
  · simp -dsimp (disch := first | omega | (simp only [List.length_cons, List.length_nil, List.length_map, List.length_append, List.length_take, List.length_drop, List.length_replicate, List.length_set, mkG_len] <;> omega) | fail) only [push_cast, if_pos, decide_eq_true, decide_eq_false, simprocAttr, -Nat.reduceSubDiff]
  rintro J ⟨hJ, hEJ⟩ ih
  have hJl := hJ.1
  have hb := bytes_le hJ
  have hb0 := bytes_nn J
  rw [evF] at hEJ
  by_cases hc : s.r < bytes J + t.size ∨ 1000 ≤ J.length
  · rw [if_pos hc] at hEJ
    have two : (s.r < bytes J + t.size ∧ s.r < bytes J + t.size) ∨ (¬ s.r < bytes J + t.size ∧ 1000 ≤ J.length) := by omega
    rcases two with ⟨h1, h2⟩ | ⟨h1, h2⟩
    all_goals
      (simp -dsimp (disch := first | omega | (simp only [wr_id, List.length_cons, List.length_nil, List.length_map, List.length_append, List.length_take, List.length_drop, List.length_replicate, List.length_set, mkG_len] <;> omega) | fail) only [push_cast, if_pos, decide_eq_true, decide_eq_false, wr_id, simprocAttr, -Nat.reduceSubDiff]) <;> (repeat (refine (aw_draw (by kernel_rfl)).2 ?_; simp -dsimp (disch := first | omega | (simp only [wr_id, List.length_cons, List.length_nil, List.length_map, List.length_append, List.length_take, List.length_drop, List.length_replicate, List.length_set, mkG_len] <;> omega) | fail) only [push_cast, if_pos, decide_eq_true, decide_eq_false, wr_id, simprocAttr, -Nat.reduceSubDiff]))
      refine loop_ind (α := Nat) (fun i => i ≤ J.length)
        (fun i => ⟨[(1, .sc (.string t)), (2, .sc (.int .i64 now)), (3, .pt 1 0 0), (6, .pt 2 0 0), (8, .pt 5 0 0), (9, .sc (.string u)), (11, .mv 8), (14, .sc (.int .i64 (bytes J))), (17, .sc (.int .i64 (bestF s.w N J i))), (105, .ow 6 0 J.length), (106, .sc (.int .i64 J.length)), (107, .sc (.int .i64 i))],
          [(1, .bx (storeC false s)), (2, .bx [.sc (.int .i64 0), .sc (.int .i64 0), .ow 3 0 0, .ow 4 0 0]), (3, .ar 2 0 []), (4, .ar 1 0 []), (5, .bx [.sc (.int .i64 s.w), .sc (.int .i64 s.r), .ow 6 0 J.length, .ow 7 0 s.P.length]), (6, .ar 2 0 (J.map (itemC true))), (7, .ar 1 0 (s.P.map strR)), (8, .mp 0 (mset N))], 9⟩) (fun i => J.length - i) 0 (Nat.zero_le _) ?_ ?_
      · simp -dsimp (disch := first | omega | (simp only [bestF, List.length_cons, List.length_nil, List.length_map, List.length_append, List.length_take, List.length_drop, List.length_replicate, List.length_set, mkG_len] <;> omega) | fail) only [push_cast, if_pos, decide_eq_true, decide_eq_false, bestF, simprocAttr, -Nat.reduceSubDiff]
      intro i hi ih2
      by_cases h : i < J.length
      · obtain ⟨x, hx⟩ := ex_get h
        have hxt : x.t.size ≤ 2097152 := hJ.2 x (List.mem_of_getElem? hx)
        have hst : bestF s.w N J (i + 1) = if inL N (sumS x.t s.w) = false ∧ (bestF s.w N J i < 0 ∨ x.u < usedAt J (bestF s.w N J i)) then (i : Int) else bestF s.w N J i := by rw [bestF, hx]
        have hr := best_rng s.w N J i
        obtain ⟨B, hB⟩ : ∃ B, B = bestF s.w N J i := ⟨_, rfl⟩
        rw [← hB] at hst hr ⊢
        (simp -dsimp (disch := first | omega | (simp only [h, hx, List.length_cons, List.length_nil, List.length_map, List.length_append, List.length_take, List.length_drop, List.length_replicate, List.length_set, mkG_len] <;> omega) | fail) only [push_cast, if_pos, decide_eq_true, decide_eq_false, h, hx, simprocAttr, -Nat.reduceSubDiff]) <;> (repeat (refine (aw_draw (by kernel_rfl)).2 ?_; simp -dsimp (disch := first | omega | (simp only [h, hx, List.length_cons, List.length_nil, List.length_map, List.length_append, List.length_take, List.length_drop, List.length_replicate, List.length_set, mkG_len] <;> omega) | fail) only [push_cast, if_pos, decide_eq_true, decide_eq_false, h, hx, simprocAttr, -Nat.reduceSubDiff]))
        refine callC (implSum x.t s.w (by omega)) ?_
        cases hin : inL N (sumS x.t s.w) with
        | true =>
          rw [if_neg (by rw [hin]; simp)] at hst
          (simp -dsimp (disch := first | omega | (simp only [h, hx, pLookup, entries, hk.1, hk2, kkey, mset_get, hin, List.length_cons, List.length_nil, List.length_map, List.length_append, List.length_take, List.length_drop, List.length_replicate, List.length_set, mkG_len] <;> omega) | fail) only [push_cast, if_pos, decide_eq_true, decide_eq_false, h, hx, pLookup, entries, hk.1, hk2, kkey, mset_get, hin, simprocAttr, -Nat.reduceSubDiff]) <;> (repeat (refine (aw_draw (by kernel_rfl)).2 ?_; simp -dsimp (disch := first | omega | (simp only [h, hx, pLookup, entries, hk.1, hk2, kkey, mset_get, hin, List.length_cons, List.length_nil, List.length_map, List.length_append, List.length_take, List.length_drop, List.length_replicate, List.length_set, mkG_len] <;> omega) | fail) only [push_cast, if_pos, decide_eq_true, decide_eq_false, h, hx, pLookup, entries, hk.1, hk2, kkey, mset_get, hin, simprocAttr, -Nat.reduceSubDiff]))
          refine ih2 (i + 1) _ (by omega) h ?_
          rw [hst]
          simp -dsimp (disch := first | omega | (simp only [wr_id, List.length_cons, List.length_nil, List.length_map, List.length_append, List.length_take, List.length_drop, List.length_replicate, List.length_set, mkG_len] <;> omega) | fail) only [push_cast, if_pos, decide_eq_true, decide_eq_false, wr_id, simprocAttr, -Nat.reduceSubDiff]
        | false =>
        by_cases hB0 : B < 0
        · rw [if_pos ⟨hin, .inl hB0⟩] at hst
          (simp -dsimp (disch := first | omega | (simp only [h, hx, pLookup, entries, hk.1, hk2, kkey, mset_get, hin, hB0, List.length_cons, List.length_nil, List.length_map, List.length_append, List.length_take, List.length_drop, List.length_replicate, List.length_set, mkG_len] <;> omega) | fail) only [push_cast, if_pos, decide_eq_true, decide_eq_false, h, hx, pLookup, entries, hk.1, hk2, kkey, mset_get, hin, hB0, simprocAttr, -Nat.reduceSubDiff]) <;> (repeat (refine (aw_draw (by kernel_rfl)).2 ?_; simp -dsimp (disch := first | omega | (simp only [h, hx, pLookup, entries, hk.1, hk2, kkey, mset_get, hin, hB0, List.length_cons, List.length_nil, List.length_map, List.length_append, List.length_take, List.length_drop, List.length_replicate, List.length_set, mkG_len] <;> omega) | fail) only [push_cast, if_pos, decide_eq_true, decide_eq_false, h, hx, pLookup, entries, hk.1, hk2, kkey, mset_get, hin, hB0, simprocAttr, -Nat.reduceSubDiff]))
          refine ih2 (i + 1) _ (by omega) h ?_
          rw [hst]
          simp -dsimp (disch := first | omega | (simp only [wr_id, List.length_cons, List.length_nil, List.length_map, List.length_append, List.length_take, List.length_drop, List.length_replicate, List.length_set, mkG_len] <;> omega) | fail) only [push_cast, if_pos, decide_eq_true, decide_eq_false, wr_id, simprocAttr, -Nat.reduceSubDiff]
        obtain ⟨k, hk0⟩ : ∃ k : Nat, B = k := ⟨B.toNat, by omega⟩
        rw [hk0] at hst hB0 hr ⊢
        obtain ⟨y, hy⟩ := ex_get (show k < J.length by omega)
        have hua : usedAt J (k : Int) = y.u := by unfold usedAt; rw [Int.toNat_natCast, hy]
        rw [hua] at hst
        by_cases hlt : x.u < y.u
        · rw [if_pos ⟨hin, .inr hlt⟩] at hst
          (simp -dsimp (disch := first | omega | (simp only [h, hx, hy, pLookup, entries, hk.1, hk2, kkey, mset_get, hin, hB0, hlt, List.length_cons, List.length_nil, List.length_map, List.length_append, List.length_take, List.length_drop, List.length_replicate, List.length_set, mkG_len] <;> omega) | fail) only [push_cast, if_pos, decide_eq_true, decide_eq_false, h, hx, hy, pLookup, entries, hk.1, hk2, kkey, mset_get, hin, hB0, hlt, simprocAttr, -Nat.reduceSubDiff]) <;> (repeat (refine (aw_draw (by kernel_rfl)).2 ?_; simp -dsimp (disch := first | omega | (simp only [h, hx, hy, pLookup, entries, hk.1, hk2, kkey, mset_get, hin, hB0, hlt, List.length_cons, List.length_nil, List.length_map, List.length_append, List.length_take, List.length_drop, List.length_replicate, List.length_set, mkG_len] <;> omega) | fail) only [push_cast, if_pos, decide_eq_true, decide_eq_false, h, hx, hy, pLookup, entries, hk.1, hk2, kkey, mset_get, hin, hB0, hlt, simprocAttr, -Nat.reduceSubDiff]))
          refine ih2 (i + 1) _ (by omega) h ?_
          rw [hst]
          simp -dsimp (disch := first | omega | (simp only [wr_id, List.length_cons, List.length_nil, List.length_map, List.length_append, List.length_take, List.length_drop, List.length_replicate, List.length_set, mkG_len] <;> omega) | fail) only [push_cast, if_pos, decide_eq_true, decide_eq_false, wr_id, simprocAttr, -Nat.reduceSubDiff]
        · rw [if_neg (by rintro ⟨_, q | q⟩; exact hB0 q; exact hlt q)] at hst
          (simp -dsimp (disch := first | omega | (simp only [h, hx, hy, pLookup, entries, hk.1, hk2, kkey, mset_get, hin, hB0, hlt, List.length_cons, List.length_nil, List.length_map, List.length_append, List.length_take, List.length_drop, List.length_replicate, List.length_set, mkG_len] <;> omega) | fail) only [push_cast, if_pos, decide_eq_true, decide_eq_false, h, hx, hy, pLookup, entries, hk.1, hk2, kkey, mset_get, hin, hB0, hlt, simprocAttr, -Nat.reduceSubDiff]) <;> (repeat (refine (aw_draw (by kernel_rfl)).2 ?_; simp -dsimp (disch := first | omega | (simp only [h, hx, hy, pLookup, entries, hk.1, hk2, kkey, mset_get, hin, hB0, hlt, List.length_cons, List.length_nil, List.length_map, List.length_append, List.length_take, List.length_drop, List.length_replicate, List.length_set, mkG_len] <;> omega) | fail) only [push_cast, if_pos, decide_eq_true, decide_eq_false, h, hx, hy, pLookup, entries, hk.1, hk2, kkey, mset_get, hin, hB0, hlt, simprocAttr, -Nat.reduceSubDiff]))
          refine ih2 (i + 1) _ (by omega) h ?_
          rw [hst]
          simp -dsimp (disch := first | omega | (simp only [wr_id, List.length_cons, List.length_nil, List.length_map, List.length_append, List.length_take, List.length_drop, List.length_replicate, List.length_set, mkG_len] <;> omega) | fail) only [push_cast, if_pos, decide_eq_true, decide_eq_false, wr_id, simprocAttr, -Nat.reduceSubDiff]
      have hi : i = J.length := by omega
      subst hi
      clear ih2
      have hr := best_rng s.w N J J.length
      obtain ⟨B, hB⟩ : ∃ B, B = bestF s.w N J J.length := ⟨_, rfl⟩
      rw [← hB] at hEJ hr ⊢
      by_cases hB0 : B < 0
      · rw [if_neg (by omega)] at hEJ
        rw [← hEJ] at hM
        subst hM
        (simp -dsimp (disch := first | omega | (simp only [hB0, List.length_cons, List.length_nil, List.length_map, List.length_append, List.length_take, List.length_drop, List.length_replicate, List.length_set, mkG_len] <;> omega) | fail) only [push_cast, if_pos, decide_eq_true, decide_eq_false, hB0, simprocAttr, -Nat.reduceSubDiff]) <;> (repeat (refine (aw_draw (by kernel_rfl)).2 ?_; simp -dsimp (disch := first | omega | (simp only [hB0, List.length_cons, List.length_nil, List.length_map, List.length_append, List.length_take, List.length_drop, List.length_replicate, List.length_set, mkG_len] <;> omega) | fail) only [push_cast, if_pos, decide_eq_true, decide_eq_false, hB0, simprocAttr, -Nat.reduceSubDiff]))
        rfl
      · rw [if_pos (by omega)] at hEJ
        obtain ⟨k, hk0⟩ : ∃ k : Nat, B = k := ⟨B.toNat, by omega⟩
        rw [hk0, Int.toNat_natCast] at hEJ
        rw [hk0] at hB0 hr ⊢
        obtain ⟨y, hy⟩ := ex_get (show k < J.length by omega)
        have hyt : y.t.size ≤ 2097152 := hJ.2 y (List.mem_of_getElem? hy)
        have hrl := rmAt_len (l := J) (i := k) (by omega)
        have hrb := bytes_rm hy
        have hrb0 := bytes_nn (rmAt J k)
        have e0 : bytes J - y.t.size = bytes (rmAt J k) := by omega
        have e1 : ((k : Int) + 1).toNat = k + 1 := by omega
        have e2 : k + (J.drop (k + 1)).length = (rmAt J k).length := by rw [List.length_drop]; omega
        have e3 : (J.map (itemC true)).length = J.length := List.length_map _
        have e4 : (J.take k).map (itemC true) ++ (J.drop (k + 1)).map (itemC true) = (rmAt J k).map (itemC true) := by unfold rmAt; rw [List.map_append]
        (simp -dsimp (disch := first | omega | (simp only [hB0, hy, e0, e1, seg_tk, seg_dr, wr_id, List.length_cons, List.length_nil, List.length_map, List.length_append, List.length_take, List.length_drop, List.length_replicate, List.length_set, mkG_len] <;> omega) | fail) only [push_cast, if_pos, decide_eq_true, decide_eq_false, hB0, hy, e0, e1, seg_tk, seg_dr, wr_id, simprocAttr, -Nat.reduceSubDiff]) <;> (repeat (refine (aw_draw (by kernel_rfl)).2 ?_; simp -dsimp (disch := first | omega | (simp only [hB0, hy, e0, e1, seg_tk, seg_dr, wr_id, List.length_cons, List.length_nil, List.length_map, List.length_append, List.length_take, List.length_drop, List.length_replicate, List.length_set, mkG_len] <;> omega) | fail) only [push_cast, if_pos, decide_eq_true, decide_eq_false, hB0, hy, e0, e1, seg_tk, seg_dr, wr_id, simprocAttr, -Nat.reduceSubDiff]))
        refine ih (rmAt J k) _ (by omega) ⟨⟨by omega, fun a ha => hJ.2 a (by unfold rmAt at ha; rcases List.mem_append.1 ha with q | q; exact List.mem_of_mem_take q; exact List.mem_of_mem_drop q)⟩, hEJ⟩ ?_
        simp -dsimp (disch := first | omega | (simp only [wr_id, e0, e1, e2, e4, List.length_cons, List.length_nil, List.length_map, List.length_append, List.length_take, List.length_drop, List.length_replicate, List.length_set, mkG_len] <;> omega) | fail) only [push_cast, if_pos, decide_eq_true, decide_eq_false, wr_id, e0, e1, e2, e4, simprocAttr, -Nat.reduceSubDiff]
  · rw [if_neg hc] at hEJ
    rw [← hEJ] at hM
    simp only at hM
    have h1 : ¬ s.r < bytes J + t.size := by omega
    have h2 : ¬ 1000 ≤ J.length := by omega
    clear ih hEJ hE
    (simp -dsimp (disch := first | omega | (simp only [wr_id, List.length_cons, List.length_nil, List.length_map, List.length_append, List.length_take, List.length_drop, List.length_replicate, List.length_set, mkG_len] <;> omega) | fail) only [push_cast, if_pos, decide_eq_true, decide_eq_false, wr_id, simprocAttr, -Nat.reduceSubDiff]) <;> (repeat (refine (aw_draw (by kernel_rfl)).2 ?_; simp -dsimp (disch := first | omega | (simp only [wr_id, List.length_cons, List.length_nil, List.length_map, List.length_append, List.length_take, List.length_drop, List.length_replicate, List.length_set, mkG_len] <;> omega) | fail) only [push_cast, if_pos, decide_eq_true, decide_eq_false, wr_id, simprocAttr, -Nat.reduceSubDiff]))
    have hkr := rk_le (sumsI s.w J) u
    have hsl : (sumsI s.w J).length = J.length := by unfold sumsI; rw [List.length_map]
    refine loop_ind (α := Nat) (fun k => k ≤ rk (sumsI s.w J) u)
      (fun k => ⟨[(1, .sc (.string t)), (2, .sc (.int .i64 now)), (3, .pt 1 0 0), (6, .pt 2 0 0), (8, .pt 5 0 0), (9, .sc (.string u)), (20, .sc (.int .i64 k))],
        [(1, .bx (storeC false s)), (2, .bx [.sc (.int .i64 0), .sc (.int .i64 0), .ow 3 0 0, .ow 4 0 0]), (3, .ar 2 0 []), (4, .ar 1 0 []), (5, .bx [.sc (.int .i64 s.w), .sc (.int .i64 s.r), .ow 6 0 J.length, .ow 7 0 s.P.length]), (6, .ar 2 0 (J.map (itemC true))), (7, .ar 1 0 (s.P.map strR))], 8⟩) (fun k => J.length - k) 0 (Nat.zero_le _) ?_ ?_
    · simp -dsimp (disch := first | omega | (simp only [List.length_cons, List.length_nil, List.length_map, List.length_append, List.length_take, List.length_drop, List.length_replicate, List.length_set, mkG_len] <;> omega) | fail) only [push_cast, if_pos, decide_eq_true, decide_eq_false, simprocAttr, -Nat.reduceSubDiff]
    intro k hkk0 ih
    have last : k = rk (sumsI s.w J) u → k ≤ J.length ∧ M = ({ s with I := insAt J k ⟨t, now⟩ }, 0) := fun q => ⟨by omega, by rw [hM, ← q]⟩
    obtain ⟨z, hins⟩ : ∃ z : Item, k ≤ J.length → List.take (k + 1) (J.map (itemC true) ++ [itemC true ⟨⟨#[]⟩, 0⟩]) ++ List.take (J.length - k) (seg (J.map (itemC true) ++ [itemC true ⟨⟨#[]⟩, 0⟩]) k (J.length + 1 - k)) ++
      List.drop (k + 1 + min (seg (J.map (itemC true) ++ [itemC true ⟨⟨#[]⟩, 0⟩]) k (J.length + 1 - k)).length (J.length - k)) (J.map (itemC true) ++ [itemC true ⟨⟨#[]⟩, 0⟩]) = (J.take k ++ z :: J.drop k).map (itemC true) := by
      by_cases q : k ≤ J.length
      · obtain ⟨z, hz⟩ := ins_rowsG (itemC true) J ⟨⟨#[]⟩, 0⟩ k q
        exact ⟨z, fun _ => hz⟩
      · exact ⟨⟨em, 0⟩, fun q2 => (q q2).elim⟩
    have e1 : ((k : Int) + 1).toNat = k + 1 := by omega
    have e2 : ((J.length : Int) + 1 - ((k : Int) + 1)).toNat = J.length - k := by omega
    have e3 : ((J.length : Int) + 1 - (k : Int)).toNat = J.length + 1 - k := by omega
    have hfl : flatR (seg (J.map (itemC true) ++ [itemC true ⟨⟨#[]⟩, 0⟩]) k (J.length + 1 - k)) = true := flat_seg (by rw [flatR_app, flat_Item]; rfl) _ _
    have hg := fun q : k ≤ J.length => midG_get (a := J.take k) (b := J.drop k) (x := z) (i := k) (by simp; omega)
    have hset := fun q : k ≤ J.length => set_item (J.take k ++ z :: J.drop k) k t now
    have hms := fun q : k ≤ J.length => midG_set (a := J.take k) (b := J.drop k) (x := z) (y := (⟨t, now⟩ : Item)) (i := k) (by simp; omega)
    simp only [itemC] at hfl
    by_cases h : k < J.length
    · obtain ⟨x, hx⟩ := ex_get h
      have hxt : x.t.size ≤ 2097152 := hJ.2 x (List.mem_of_getElem? hx)
      have hxs : (sumsI s.w J)[k]? = some (sumS x.t s.w) := by unfold sumsI; rw [List.getElem?_map, hx]; rfl
      (simp -dsimp (disch := first | omega | (simp only [h, hx, List.length_cons, List.length_nil, List.length_map, List.length_append, List.length_take, List.length_drop, List.length_replicate, List.length_set, mkG_len] <;> omega) | fail) only [push_cast, if_pos, decide_eq_true, decide_eq_false, h, hx, simprocAttr, -Nat.reduceSubDiff]) <;> (repeat (refine (aw_draw (by kernel_rfl)).2 ?_; simp -dsimp (disch := first | omega | (simp only [h, hx, List.length_cons, List.length_nil, List.length_map, List.length_append, List.length_take, List.length_drop, List.length_replicate, List.length_set, mkG_len] <;> omega) | fail) only [push_cast, if_pos, decide_eq_true, decide_eq_false, h, hx, simprocAttr, -Nat.reduceSubDiff]))
      refine callC (implSum x.t s.w (by omega)) ?_
      cases e : lts (sumS x.t s.w) u with
      | true =>
        have := rk_step hkk0 hxs e
        (simp -dsimp (disch := first | omega | (simp only [h, hx, e, List.length_cons, List.length_nil, List.length_map, List.length_append, List.length_take, List.length_drop, List.length_replicate, List.length_set, mkG_len] <;> omega) | fail) only [push_cast, if_pos, decide_eq_true, decide_eq_false, h, hx, e, simprocAttr, -Nat.reduceSubDiff]) <;> (repeat (refine (aw_draw (by kernel_rfl)).2 ?_; simp -dsimp (disch := first | omega | (simp only [h, hx, e, List.length_cons, List.length_nil, List.length_map, List.length_append, List.length_take, List.length_drop, List.length_replicate, List.length_set, mkG_len] <;> omega) | fail) only [push_cast, if_pos, decide_eq_true, decide_eq_false, h, hx, e, simprocAttr, -Nat.reduceSubDiff]))
        refine ih (k + 1) _ (by omega) this ?_
        simp -dsimp (disch := first | omega | (simp only [wr_id, List.length_cons, List.length_nil, List.length_map, List.length_append, List.length_take, List.length_drop, List.length_replicate, List.length_set, mkG_len] <;> omega) | fail) only [push_cast, if_pos, decide_eq_true, decide_eq_false, wr_id, simprocAttr, -Nat.reduceSubDiff]
      | false =>
        have hkk : k = rk (sumsI s.w J) u := by
          rcases Nat.lt_or_eq_of_le hkk0 with q | q
          · obtain ⟨y, hy, hy2⟩ := rk_all q
            rw [hxs] at hy; cases hy; rw [e] at hy2; cases hy2
          · exact q
        obtain ⟨hkl, hM⟩ := last hkk
        have hins := hins hkl
        have hg := hg hkl
        have hset := hset hkl
        rw [hms hkl] at hset
        simp only [itemC] at hins
        subst hM
        (simp -dsimp (disch := first | omega | (simp only [h, hx, e, wr_id, e1, e2, e3, hins, hg, hfl, List.length_cons, List.length_nil, List.length_map, List.length_append, List.length_take, List.length_drop, List.length_replicate, List.length_set, mkG_len] <;> omega) | fail) only [push_cast, if_pos, decide_eq_true, decide_eq_false, h, hx, e, wr_id, e1, e2, e3, hins, hg, hfl, simprocAttr, -Nat.reduceSubDiff]) <;> (repeat (refine (aw_draw (by kernel_rfl)).2 ?_; simp -dsimp (disch := first | omega | (simp only [h, hx, e, wr_id, e1, e2, e3, hins, hg, hfl, List.length_cons, List.length_nil, List.length_map, List.length_append, List.length_take, List.length_drop, List.length_replicate, List.length_set, mkG_len] <;> omega) | fail) only [push_cast, if_pos, decide_eq_true, decide_eq_false, h, hx, e, wr_id, e1, e2, e3, hins, hg, hfl, simprocAttr, -Nat.reduceSubDiff]))
        rw [hset]
        rfl
    · have hkk : k = rk (sumsI s.w J) u := by omega
      obtain ⟨hkl, hM⟩ := last hkk
      have hins := hins hkl
      have hg := hg hkl
      have hset := hset hkl
      rw [hms hkl] at hset
      simp only [itemC] at hins
      subst hM
      (simp -dsimp (disch := first | omega | (simp only [h, wr_id, e1, e2, e3, hins, hg, hfl, List.length_cons, List.length_nil, List.length_map, List.length_append, List.length_take, List.length_drop, List.length_replicate, List.length_set, mkG_len] <;> omega) | fail) only [push_cast, if_pos, decide_eq_true, decide_eq_false, h, wr_id, e1, e2, e3, hins, hg, hfl, simprocAttr, -Nat.reduceSubDiff]) <;> (repeat (refine (aw_draw (by kernel_rfl)).2 ?_; simp -dsimp (disch := first | omega | (simp only [h, wr_id, e1, e2, e3, hins, hg, hfl, List.length_cons, List.length_nil, List.length_map, List.length_append, List.length_take, List.length_drop, List.length_replicate, List.length_set, mkG_len] <;> omega) | fail) only [push_cast, if_pos, decide_eq_true, decide_eq_false, h, wr_id, e1, e2, e3, hins, hg, hfl, simprocAttr, -Nat.reduceSubDiff]))
      rw [hset]
      rfl
end Go.Proofs.YtgkncgiglmdnaaaGreatDoor.Mx

/- Things built of pieces. -/
namespace Go.Proofs.YtgkncgiglmdnaaaGreatDoor.Mx
set_option linter.all false
open Go Go.RowKit Go.Proofs
set_option linter.unusedSimpArgs false
def E14 : Env := { T := T0, kp := look [(0, [0, 1]), (1, [0, 1, 4]), (2, [4, 5])] }
attribute [local push_cast] E14
theorem implDescribe (t : Str) (w : Int) (ht : t.size ≤ 100000000) : Does Tryz.prog 14 [.sc (.string t), .sc (.int .i64 w)] (.ag (lstC true (descL t w).1), []) := by
  refine does_of (E := E14) (rs := [.cell 4 27]) (lent := []) tOk rfl Tryz.func14 rfl (by decide) rfl rfl (Nat.le_of_ble_eq_true rfl) (Nat.le_of_ble_eq_true rfl) ?_
  (simp -dsimp (disch := first | omega | (simp only [List.length_cons, List.length_nil, List.length_map, List.length_append, List.length_take, List.length_drop, List.length_replicate, List.length_set, mkG_len] <;> omega) | fail) only [push_cast, if_pos, decide_eq_true, decide_eq_false, simprocAttr, -Nat.reduceSubDiff]) <;> (repeat (refine (aw_draw (by kernel_rfl)).2 ?_; simp -dsimp (disch := first | omega | (simp only [List.length_cons, List.length_nil, List.length_map, List.length_append, List.length_take, List.length_drop, List.length_replicate, List.length_set, mkG_len] <;> omega) | fail) only [push_cast, if_pos, decide_eq_true, decide_eq_false, simprocAttr, -Nat.reduceSubDiff]))
  refine callC (implDescribe0 t w ht) ?_
  (simp -dsimp (disch := first | omega | (simp only [List.length_cons, List.length_nil, List.length_map, List.length_append, List.length_take, List.length_drop, List.length_replicate, List.length_set, mkG_len] <;> omega) | fail) only [push_cast, if_pos, decide_eq_true, decide_eq_false, simprocAttr, -Nat.reduceSubDiff]) <;> (repeat (refine (aw_draw (by kernel_rfl)).2 ?_; simp -dsimp (disch := first | omega | (simp only [List.length_cons, List.length_nil, List.length_map, List.length_append, List.length_take, List.length_drop, List.length_replicate, List.length_set, mkG_len] <;> omega) | fail) only [push_cast, if_pos, decide_eq_true, decide_eq_false, simprocAttr, -Nat.reduceSubDiff]))
end Go.Proofs.YtgkncgiglmdnaaaGreatDoor.Mx

/- Things saved in stores. -/
namespace Go.Proofs.YtgkncgiglmdnaaaGreatDoor.Mx
set_option linter.all false
open Go Go.RowKit Go.Proofs
set_option linter.unusedSimpArgs false
def E45 : Env := { T := T0, kp := look [(0, [0, 1, 2]), (1, [1, 2, 3, 6]), (2, [6]), (3, [1, 2, 3, 6]), (4, [1, 2, 3, 6, 8, 9]), (5, [6, 9]), (6, [1, 2, 3, 6, 8]), (7, [2, 6, 8, 10]), (8, [2, 6, 8, 10, 11]), (9, [2, 6, 8, 10, 11]), (10, [2, 6, 8, 10, 11]), (11, [2, 6, 8, 9, 10, 11]), (12, [6, 9]), (13, [6, 8])], dp := look2 [(3, [[], [], [], [2], [1, 2, 3], [0, 1, 2, 3, 4], [0, 1, 2, 3, 4, 5], [0, 1, 2, 3, 4, 5, 6], [0, 1, 2, 3, 4, 5, 6], [], [0, 1, 2, 3, 4, 5, 6, 7, 9], [0, 1, 2, 3, 4, 5, 6, 7, 8, 9, 10]]), (6, [[], [], [1], [0, 1, 2], [], [4], [0, 1, 2, 3, 4, 5], [0, 1, 2, 3, 4, 5, 6], [], [0, 1, 2, 3, 4, 5, 6, 8], [0, 1, 2, 3, 4, 5, 6, 7, 8, 9], [0, 1, 2, 3, 4, 5, 6, 7, 8, 9, 10]]), (10, [[], [], [], [1, 2], [1, 2, 3], [], [0, 1, 2, 3, 4, 5], [0, 1, 2, 3, 4, 5, 6], [0, 1, 2, 3, 4, 5, 6, 7], [0, 1, 2, 3, 4, 5, 6, 7], [0, 1, 2, 3, 4, 5, 6, 7, 8], [0, 1, 2, 3, 4, 5, 6, 7, 8, 9, 10]])] }
attribute [local push_cast] E45
set_option maxRecDepth 20000 in
set_option maxHeartbeats 2000000 in
theorem specSave (s : Store) (t : Str) (now : Int) (hs : okStore s) (ht : t.size ≤ 2097152) : Does Tryz.prog 45 [.ag (storeC false s), .sc (.string t), .sc (.int .i64 now)] (.tu [.ag (storeC true (saveF s t now).1), .sc (.int .i64 (saveF s t now).2)], []) := by
  refine does_of (E := E45) (rs := [.cell 6 46, .tmp 7]) (lent := []) tOk rfl Tryz.func45 rfl (by decide) rfl rfl (Nat.le_of_ble_eq_true rfl) (Nat.le_of_ble_eq_true rfl) ?_
  obtain ⟨M, hM⟩ : ∃ M, M = saveF s t now := ⟨_, rfl⟩
  rw [← hM]
  unfold saveF at hM
  (simp -dsimp (disch := first | omega | (simp only [List.length_cons, List.length_nil, List.length_map, List.length_append, List.length_take, List.length_drop, List.length_replicate, List.length_set, mkG_len] <;> omega) | fail) only [push_cast, if_pos, decide_eq_true, decide_eq_false, simprocAttr, -Nat.reduceSubDiff]) <;> (repeat (refine (aw_draw (by kernel_rfl)).2 ?_; simp -dsimp (disch := first | omega | (simp only [List.length_cons, List.length_nil, List.length_map, List.length_append, List.length_take, List.length_drop, List.length_replicate, List.length_set, mkG_len] <;> omega) | fail) only [push_cast, if_pos, decide_eq_true, decide_eq_false, simprocAttr, -Nat.reduceSubDiff]))
  refine callC (specValidStore s hs) ?_
  cases hv : validSt s with
  | false =>
    rw [hv, Bool.false_and, Bool.false_and, if_pos rfl] at hM
    subst hM
    (simp -dsimp (disch := first | omega | (simp only [List.length_cons, List.length_nil, List.length_map, List.length_append, List.length_take, List.length_drop, List.length_replicate, List.length_set, mkG_len] <;> omega) | fail) only [push_cast, if_pos, decide_eq_true, decide_eq_false, simprocAttr, -Nat.reduceSubDiff]) <;> (repeat (refine (aw_draw (by kernel_rfl)).2 ?_; simp -dsimp (disch := first | omega | (simp only [List.length_cons, List.length_nil, List.length_map, List.length_append, List.length_take, List.length_drop, List.length_replicate, List.length_set, mkG_len] <;> omega) | fail) only [push_cast, if_pos, decide_eq_true, decide_eq_false, simprocAttr, -Nat.reduceSubDiff]))
    rfl
  | true =>
  by_cases hbig : 3000 < t.size
  · rw [show decide (t.size ≤ 3000) = false from decide_eq_false (by omega), Bool.and_false, Bool.false_and, if_pos rfl] at hM
    subst hM
    (simp -dsimp (disch := first | omega | (simp only [List.length_cons, List.length_nil, List.length_map, List.length_append, List.length_take, List.length_drop, List.length_replicate, List.length_set, mkG_len] <;> omega) | fail) only [push_cast, if_pos, decide_eq_true, decide_eq_false, simprocAttr, -Nat.reduceSubDiff]) <;> (repeat (refine (aw_draw (by kernel_rfl)).2 ?_; simp -dsimp (disch := first | omega | (simp only [List.length_cons, List.length_nil, List.length_map, List.length_append, List.length_take, List.length_drop, List.length_replicate, List.length_set, mkG_len] <;> omega) | fail) only [push_cast, if_pos, decide_eq_true, decide_eq_false, simprocAttr, -Nat.reduceSubDiff]))
    rfl
  (simp -dsimp (disch := first | omega | (simp only [List.length_cons, List.length_nil, List.length_map, List.length_append, List.length_take, List.length_drop, List.length_replicate, List.length_set, mkG_len] <;> omega) | fail) only [push_cast, if_pos, decide_eq_true, decide_eq_false, simprocAttr, -Nat.reduceSubDiff]) <;> (repeat (refine (aw_draw (by kernel_rfl)).2 ?_; simp -dsimp (disch := first | omega | (simp only [List.length_cons, List.length_nil, List.length_map, List.length_append, List.length_take, List.length_drop, List.length_replicate, List.length_set, mkG_len] <;> omega) | fail) only [push_cast, if_pos, decide_eq_true, decide_eq_false, simprocAttr, -Nat.reduceSubDiff]))
  refine callC (l1In ..) ?_
  cases hn : inB now 0 1000000 with
  | false =>
    rw [hn, Bool.and_false, if_pos rfl] at hM
    subst hM
    (simp -dsimp (disch := first | omega | (simp only [List.length_cons, List.length_nil, List.length_map, List.length_append, List.length_take, List.length_drop, List.length_replicate, List.length_set, mkG_len] <;> omega) | fail) only [push_cast, if_pos, decide_eq_true, decide_eq_false, simprocAttr, -Nat.reduceSubDiff]) <;> (repeat (refine (aw_draw (by kernel_rfl)).2 ?_; simp -dsimp (disch := first | omega | (simp only [List.length_cons, List.length_nil, List.length_map, List.length_append, List.length_take, List.length_drop, List.length_replicate, List.length_set, mkG_len] <;> omega) | fail) only [push_cast, if_pos, decide_eq_true, decide_eq_false, simprocAttr, -Nat.reduceSubDiff]))
    rfl
  | true =>
  rw [if_neg (by rw [hv, hn, show decide (t.size ≤ 3000) = true from decide_eq_true (by omega)]; simp)] at hM
  have hnl := nameS_le t s.w
  (simp -dsimp (disch := first | omega | (simp only [List.length_cons, List.length_nil, List.length_map, List.length_append, List.length_take, List.length_drop, List.length_replicate, List.length_set, mkG_len] <;> omega) | fail) only [push_cast, if_pos, decide_eq_true, decide_eq_false, simprocAttr, -Nat.reduceSubDiff]) <;> (repeat (refine (aw_draw (by kernel_rfl)).2 ?_; simp -dsimp (disch := first | omega | (simp only [List.length_cons, List.length_nil, List.length_map, List.length_append, List.length_take, List.length_drop, List.length_replicate, List.length_set, mkG_len] <;> omega) | fail) only [push_cast, if_pos, decide_eq_true, decide_eq_false, simprocAttr, -Nat.reduceSubDiff]))
  refine callC (specName t s.w (by omega)) ?_
  (simp -dsimp (disch := first | omega | (simp only [List.length_cons, List.length_nil, List.length_map, List.length_append, List.length_take, List.length_drop, List.length_replicate, List.length_set, mkG_len] <;> omega) | fail) only [push_cast, if_pos, decide_eq_true, decide_eq_false, simprocAttr, -Nat.reduceSubDiff]) <;> (repeat (refine (aw_draw (by kernel_rfl)).2 ?_; simp -dsimp (disch := first | omega | (simp only [List.length_cons, List.length_nil, List.length_map, List.length_append, List.length_take, List.length_drop, List.length_replicate, List.length_set, mkG_len] <;> omega) | fail) only [push_cast, if_pos, decide_eq_true, decide_eq_false, simprocAttr, -Nat.reduceSubDiff]))
  refine callC (specPin s (nameS t s.w) hs) ?_
  have hpo := pinS_ok hs (n := nameS t s.w) (by show _ ≤ _; omega)
  generalize pinS s (nameS t s.w) = R at *
  obtain ⟨o, c⟩ := R
  simp only at hM hpo ⊢
  by_cases hc : c = 0
  rotate_left
  · rw [if_neg hc] at hM
    subst hM
    (simp -dsimp (disch := first | omega | (simp only [hc, List.length_cons, List.length_nil, List.length_map, List.length_append, List.length_take, List.length_drop, List.length_replicate, List.length_set, mkG_len] <;> omega) | fail) only [push_cast, if_pos, decide_eq_true, decide_eq_false, hc, simprocAttr, -Nat.reduceSubDiff]) <;> (repeat (refine (aw_draw (by kernel_rfl)).2 ?_; simp -dsimp (disch := first | omega | (simp only [hc, List.length_cons, List.length_nil, List.length_map, List.length_append, List.length_take, List.length_drop, List.length_replicate, List.length_set, mkG_len] <;> omega) | fail) only [push_cast, if_pos, decide_eq_true, decide_eq_false, hc, simprocAttr, -Nat.reduceSubDiff]))
    rfl
  rw [if_pos hc] at hM
  subst hc
  have hdl := desc_len (t := t) (w := s.w)
  (simp -dsimp (disch := first | omega | (simp only [List.length_cons, List.length_nil, List.length_map, List.length_append, List.length_take, List.length_drop, List.length_replicate, List.length_set, mkG_len] <;> omega) | fail) only [push_cast, if_pos, decide_eq_true, decide_eq_false, simprocAttr, -Nat.reduceSubDiff]) <;> (repeat (refine (aw_draw (by kernel_rfl)).2 ?_; simp -dsimp (disch := first | omega | (simp only [List.length_cons, List.length_nil, List.length_map, List.length_append, List.length_take, List.length_drop, List.length_replicate, List.length_set, mkG_len] <;> omega) | fail) only [push_cast, if_pos, decide_eq_true, decide_eq_false, simprocAttr, -Nat.reduceSubDiff]))
  refine callC (specDescribe t s.w (by omega)) ?_
  (simp -dsimp (disch := first | omega | (simp only [List.length_cons, List.length_nil, List.length_map, List.length_append, List.length_take, List.length_drop, List.length_replicate, List.length_set, mkG_len] <;> omega) | fail) only [push_cast, if_pos, decide_eq_true, decide_eq_false, simprocAttr, -Nat.reduceSubDiff]) <;> (repeat (refine (aw_draw (by kernel_rfl)).2 ?_; simp -dsimp (disch := first | omega | (simp only [List.length_cons, List.length_nil, List.length_map, List.length_append, List.length_take, List.length_drop, List.length_replicate, List.length_set, mkG_len] <;> omega) | fail) only [push_cast, if_pos, decide_eq_true, decide_eq_false, simprocAttr, -Nat.reduceSubDiff]))
  refine callC (specFormList (descL t s.w).1 s.w (by omega)) ?_
  (simp -dsimp (disch := first | omega | (simp only [List.length_cons, List.length_nil, List.length_map, List.length_append, List.length_take, List.length_drop, List.length_replicate, List.length_set, mkG_len] <;> omega) | fail) only [push_cast, if_pos, decide_eq_true, decide_eq_false, simprocAttr, -Nat.reduceSubDiff]) <;> (repeat (refine (aw_draw (by kernel_rfl)).2 ?_; simp -dsimp (disch := first | omega | (simp only [List.length_cons, List.length_nil, List.length_map, List.length_append, List.length_take, List.length_drop, List.length_replicate, List.length_set, mkG_len] <;> omega) | fail) only [push_cast, if_pos, decide_eq_true, decide_eq_false, simprocAttr, -Nat.reduceSubDiff]))
  refine callC (specPieces t (by omega)) ?_
  have hsz := fun x (hx : x ∈ partsL t s.w) => parts_sz hx
  have hln := parts_len t s.w
  have hpl := pieces_len t
  have hL : [.sc (.string (formL (descL t s.w).1 s.w))] :: (piecesL t).map strR = (partsL t s.w).map strR := rfl
  have hLl : 1 + (piecesL t).length = (partsL t s.w).length := by unfold partsL; rw [List.length_cons]; omega
  generalize partsL t s.w = L at *
  generalize piecesL t = P at *
  generalize formL (descL t s.w).1 s.w = W at *
  (simp -dsimp (disch := first | omega | (simp only [hL, hLl, List.length_cons, List.length_nil, List.length_map, List.length_append, List.length_take, List.length_drop, List.length_replicate, List.length_set, mkG_len] <;> omega) | fail) only [push_cast, if_pos, decide_eq_true, decide_eq_false, hL, hLl, simprocAttr, -Nat.reduceSubDiff]) <;> (repeat (refine (aw_draw (by kernel_rfl)).2 ?_; simp -dsimp (disch := first | omega | (simp only [hL, hLl, List.length_cons, List.length_nil, List.length_map, List.length_append, List.length_take, List.length_drop, List.length_replicate, List.length_set, mkG_len] <;> omega) | fail) only [push_cast, if_pos, decide_eq_true, decide_eq_false, hL, hLl, simprocAttr, -Nat.reduceSubDiff]))
  refine loop_ind (α := Nat × Store) (fun q => q.1 ≤ L.length ∧ okStore q.2 ∧ putsF now q.2 (L.drop q.1) = M)
    (fun q => ⟨[(2, .sc (.int .i64 now)), (6, .pt 1 0 0), (8, .pt 4 0 0), (10, .ow 7 0 L.length), (11, .sc (.int .i64 q.1))],
      [(1, .bx [.sc (.int .i64 0), .sc (.int .i64 0), .ow 2 0 0, .ow 3 0 0]), (2, .ar 2 0 []), (3, .ar 1 0 []), (4, .bx [.sc (.int .i64 q.2.w), .sc (.int .i64 q.2.r), .ow 5 0 q.2.I.length, .ow 6 0 q.2.P.length]), (5, .ar 2 0 (q.2.I.map (itemC true))), (6, .ar 1 0 (q.2.P.map strR)), (7, .ar 1 0 (L.map strR))], 8⟩) (fun q => L.length - q.1) (0, o) ⟨Nat.zero_le _, hpo, by rw [hM]; rfl⟩ ?_ ?_
  · simp -dsimp (disch := first | omega | (simp only [hL, hLl, List.length_cons, List.length_nil, List.length_map, List.length_append, List.length_take, List.length_drop, List.length_replicate, List.length_set, mkG_len] <;> omega) | fail) only [push_cast, if_pos, decide_eq_true, decide_eq_false, hL, hLl, simprocAttr, -Nat.reduceSubDiff]
  rintro ⟨i, a⟩ ⟨hi, ha, hq⟩ ih
  replace hi : i ≤ L.length := hi
  replace ha : okStore a := ha
  replace hq : putsF now a (L.drop i) = M := hq
  by_cases h : i < L.length
  · obtain ⟨x, hx⟩ := ex_get h
    have hxs := hsz x (List.mem_of_getElem? hx)
    rw [drop_step hx, putsF] at hq
    (simp -dsimp (disch := first | omega | (simp only [h, hx, List.length_cons, List.length_nil, List.length_map, List.length_append, List.length_take, List.length_drop, List.length_replicate, List.length_set, mkG_len] <;> omega) | fail) only [push_cast, if_pos, decide_eq_true, decide_eq_false, h, hx, simprocAttr, -Nat.reduceSubDiff]) <;> (repeat (refine (aw_draw (by kernel_rfl)).2 ?_; simp -dsimp (disch := first | omega | (simp only [h, hx, List.length_cons, List.length_nil, List.length_map, List.length_append, List.length_take, List.length_drop, List.length_replicate, List.length_set, mkG_len] <;> omega) | fail) only [push_cast, if_pos, decide_eq_true, decide_eq_false, h, hx, simprocAttr, -Nat.reduceSubDiff]))
    refine callC (specPut a x now ha (by omega)) ?_
    have hpo := put_ok (now := now) (t := x) ha (by omega)
    generalize putF a x now = R at *
    obtain ⟨b, c⟩ := R
    simp only at hq hpo ⊢
    by_cases hc : c = 0
    · rw [if_pos hc] at hq
      subst hc
      (simp -dsimp (disch := first | omega | (simp only [h, hx, List.length_cons, List.length_nil, List.length_map, List.length_append, List.length_take, List.length_drop, List.length_replicate, List.length_set, mkG_len] <;> omega) | fail) only [push_cast, if_pos, decide_eq_true, decide_eq_false, h, hx, simprocAttr, -Nat.reduceSubDiff]) <;> (repeat (refine (aw_draw (by kernel_rfl)).2 ?_; simp -dsimp (disch := first | omega | (simp only [h, hx, List.length_cons, List.length_nil, List.length_map, List.length_append, List.length_take, List.length_drop, List.length_replicate, List.length_set, mkG_len] <;> omega) | fail) only [push_cast, if_pos, decide_eq_true, decide_eq_false, h, hx, simprocAttr, -Nat.reduceSubDiff]))
      refine ih (i + 1, b) _ (by show L.length - (i + 1) < L.length - i; omega) ⟨h, hpo, hq⟩ ?_
      simp -dsimp (disch := first | omega | (simp only [wr_id, List.length_cons, List.length_nil, List.length_map, List.length_append, List.length_take, List.length_drop, List.length_replicate, List.length_set, mkG_len] <;> omega) | fail) only [push_cast, if_pos, decide_eq_true, decide_eq_false, wr_id, simprocAttr, -Nat.reduceSubDiff]
    · rw [if_neg hc] at hq
      subst hq
      (simp -dsimp (disch := first | omega | (simp only [h, hx, hc, List.length_cons, List.length_nil, List.length_map, List.length_append, List.length_take, List.length_drop, List.length_replicate, List.length_set, mkG_len] <;> omega) | fail) only [push_cast, if_pos, decide_eq_true, decide_eq_false, h, hx, hc, simprocAttr, -Nat.reduceSubDiff]) <;> (repeat (refine (aw_draw (by kernel_rfl)).2 ?_; simp -dsimp (disch := first | omega | (simp only [h, hx, hc, List.length_cons, List.length_nil, List.length_map, List.length_append, List.length_take, List.length_drop, List.length_replicate, List.length_set, mkG_len] <;> omega) | fail) only [push_cast, if_pos, decide_eq_true, decide_eq_false, h, hx, hc, simprocAttr, -Nat.reduceSubDiff]))
      rfl
  · rw [List.drop_eq_nil_of_le (by omega), putsF] at hq
    subst hq
    (simp -dsimp (disch := first | omega | (simp only [h, List.length_cons, List.length_nil, List.length_map, List.length_append, List.length_take, List.length_drop, List.length_replicate, List.length_set, mkG_len] <;> omega) | fail) only [push_cast, if_pos, decide_eq_true, decide_eq_false, h, simprocAttr, -Nat.reduceSubDiff]) <;> (repeat (refine (aw_draw (by kernel_rfl)).2 ?_; simp -dsimp (disch := first | omega | (simp only [h, List.length_cons, List.length_nil, List.length_map, List.length_append, List.length_take, List.length_drop, List.length_replicate, List.length_set, mkG_len] <;> omega) | fail) only [push_cast, if_pos, decide_eq_true, decide_eq_false, h, simprocAttr, -Nat.reduceSubDiff]))
def E46 : Env := { T := T0, kp := look [(0, [0, 1, 2]), (1, [1, 2, 3, 6]), (2, [6]), (3, [1, 2, 3, 6]), (4, [1, 2, 3, 6, 8, 9]), (5, [6, 9]), (6, [1, 2, 3, 6, 8]), (7, [2, 6, 8, 49, 50, 51]), (8, [2, 6, 8, 49, 50, 51]), (9, [2, 6, 8, 11, 49, 50, 51]), (10, [2, 6, 8, 9, 49, 50, 51]), (11, [6, 9]), (12, [2, 6, 8, 49, 50, 51]), (13, [6, 8])], dp := look2 [(3, [[], [], [], [2], [1, 2, 3], [0, 1, 2, 3, 4], [0, 1, 2, 3, 4, 5], [0, 1, 2, 3, 4, 5, 6], [0, 1, 2, 3, 4, 5, 6], [], [0, 1, 2, 3, 4, 5, 6, 7, 9], [0, 1, 2, 3, 4, 5, 6, 7, 8, 9, 10]]), (6, [[], [], [1], [0, 1, 2], [], [4], [0, 1, 2, 3, 4, 5], [0, 1, 2, 3, 4, 5, 6], [], [0, 1, 2, 3, 4, 5, 6, 8], [0, 1, 2, 3, 4, 5, 6, 7, 8, 9], [0, 1, 2, 3, 4, 5, 6, 7, 8, 9, 10], []])] }
attribute [local push_cast] E46
set_option maxRecDepth 20000 in
set_option maxHeartbeats 2000000 in
theorem implSave (s : Store) (t : Str) (now : Int) (hs : okStore s) (ht : t.size ≤ 2097152) : Does Tryz.prog 46 [.ag (storeC false s), .sc (.string t), .sc (.int .i64 now)] (.tu [.ag (storeC true (saveF s t now).1), .sc (.int .i64 (saveF s t now).2)], []) := by
  refine does_of (E := E46) (rs := [.cell 6 46, .tmp 7]) (lent := []) tOk rfl Tryz.func46 rfl (by decide) rfl rfl (Nat.le_of_ble_eq_true rfl) (Nat.le_of_ble_eq_true rfl) ?_
  obtain ⟨M, hM⟩ : ∃ M, M = saveF s t now := ⟨_, rfl⟩
  rw [← hM]
  unfold saveF at hM
  (simp -dsimp (disch := first | omega | (simp only [List.length_cons, List.length_nil, List.length_map, List.length_append, List.length_take, List.length_drop, List.length_replicate, List.length_set, mkG_len] <;> omega) | fail) only [push_cast, if_pos, decide_eq_true, decide_eq_false, simprocAttr, -Nat.reduceSubDiff]) <;> (repeat (refine (aw_draw (by kernel_rfl)).2 ?_; simp -dsimp (disch := first | omega | (simp only [List.length_cons, List.length_nil, List.length_map, List.length_append, List.length_take, List.length_drop, List.length_replicate, List.length_set, mkG_len] <;> omega) | fail) only [push_cast, if_pos, decide_eq_true, decide_eq_false, simprocAttr, -Nat.reduceSubDiff]))
  refine callC (implValidStore s hs) ?_
  cases hv : validSt s with
  | false =>
    rw [hv, Bool.false_and, Bool.false_and, if_pos rfl] at hM
    subst hM
    (simp -dsimp (disch := first | omega | (simp only [List.length_cons, List.length_nil, List.length_map, List.length_append, List.length_take, List.length_drop, List.length_replicate, List.length_set, mkG_len] <;> omega) | fail) only [push_cast, if_pos, decide_eq_true, decide_eq_false, simprocAttr, -Nat.reduceSubDiff]) <;> (repeat (refine (aw_draw (by kernel_rfl)).2 ?_; simp -dsimp (disch := first | omega | (simp only [List.length_cons, List.length_nil, List.length_map, List.length_append, List.length_take, List.length_drop, List.length_replicate, List.length_set, mkG_len] <;> omega) | fail) only [push_cast, if_pos, decide_eq_true, decide_eq_false, simprocAttr, -Nat.reduceSubDiff]))
    rfl
  | true =>
  by_cases hbig : 3000 < t.size
  · rw [show decide (t.size ≤ 3000) = false from decide_eq_false (by omega), Bool.and_false, Bool.false_and, if_pos rfl] at hM
    subst hM
    (simp -dsimp (disch := first | omega | (simp only [List.length_cons, List.length_nil, List.length_map, List.length_append, List.length_take, List.length_drop, List.length_replicate, List.length_set, mkG_len] <;> omega) | fail) only [push_cast, if_pos, decide_eq_true, decide_eq_false, simprocAttr, -Nat.reduceSubDiff]) <;> (repeat (refine (aw_draw (by kernel_rfl)).2 ?_; simp -dsimp (disch := first | omega | (simp only [List.length_cons, List.length_nil, List.length_map, List.length_append, List.length_take, List.length_drop, List.length_replicate, List.length_set, mkG_len] <;> omega) | fail) only [push_cast, if_pos, decide_eq_true, decide_eq_false, simprocAttr, -Nat.reduceSubDiff]))
    rfl
  (simp -dsimp (disch := first | omega | (simp only [List.length_cons, List.length_nil, List.length_map, List.length_append, List.length_take, List.length_drop, List.length_replicate, List.length_set, mkG_len] <;> omega) | fail) only [push_cast, if_pos, decide_eq_true, decide_eq_false, simprocAttr, -Nat.reduceSubDiff]) <;> (repeat (refine (aw_draw (by kernel_rfl)).2 ?_; simp -dsimp (disch := first | omega | (simp only [List.length_cons, List.length_nil, List.length_map, List.length_append, List.length_take, List.length_drop, List.length_replicate, List.length_set, mkG_len] <;> omega) | fail) only [push_cast, if_pos, decide_eq_true, decide_eq_false, simprocAttr, -Nat.reduceSubDiff]))
  refine callC (timeOk now) ?_
  cases hn : inB now 0 1000000 with
  | false =>
    rw [hn, Bool.and_false, if_pos rfl] at hM
    subst hM
    (simp -dsimp (disch := first | omega | (simp only [List.length_cons, List.length_nil, List.length_map, List.length_append, List.length_take, List.length_drop, List.length_replicate, List.length_set, mkG_len] <;> omega) | fail) only [push_cast, if_pos, decide_eq_true, decide_eq_false, simprocAttr, -Nat.reduceSubDiff]) <;> (repeat (refine (aw_draw (by kernel_rfl)).2 ?_; simp -dsimp (disch := first | omega | (simp only [List.length_cons, List.length_nil, List.length_map, List.length_append, List.length_take, List.length_drop, List.length_replicate, List.length_set, mkG_len] <;> omega) | fail) only [push_cast, if_pos, decide_eq_true, decide_eq_false, simprocAttr, -Nat.reduceSubDiff]))
    rfl
  | true =>
  rw [if_neg (by rw [hv, hn, show decide (t.size ≤ 3000) = true from decide_eq_true (by omega)]; simp)] at hM
  have hnl := nameS_le t s.w
  (simp -dsimp (disch := first | omega | (simp only [List.length_cons, List.length_nil, List.length_map, List.length_append, List.length_take, List.length_drop, List.length_replicate, List.length_set, mkG_len] <;> omega) | fail) only [push_cast, if_pos, decide_eq_true, decide_eq_false, simprocAttr, -Nat.reduceSubDiff]) <;> (repeat (refine (aw_draw (by kernel_rfl)).2 ?_; simp -dsimp (disch := first | omega | (simp only [List.length_cons, List.length_nil, List.length_map, List.length_append, List.length_take, List.length_drop, List.length_replicate, List.length_set, mkG_len] <;> omega) | fail) only [push_cast, if_pos, decide_eq_true, decide_eq_false, simprocAttr, -Nat.reduceSubDiff]))
  refine callC (implName t s.w (by omega)) ?_
  (simp -dsimp (disch := first | omega | (simp only [List.length_cons, List.length_nil, List.length_map, List.length_append, List.length_take, List.length_drop, List.length_replicate, List.length_set, mkG_len] <;> omega) | fail) only [push_cast, if_pos, decide_eq_true, decide_eq_false, simprocAttr, -Nat.reduceSubDiff]) <;> (repeat (refine (aw_draw (by kernel_rfl)).2 ?_; simp -dsimp (disch := first | omega | (simp only [List.length_cons, List.length_nil, List.length_map, List.length_append, List.length_take, List.length_drop, List.length_replicate, List.length_set, mkG_len] <;> omega) | fail) only [push_cast, if_pos, decide_eq_true, decide_eq_false, simprocAttr, -Nat.reduceSubDiff]))
  refine callC (implPin s (nameS t s.w) hs) ?_
  have hpo := pinS_ok hs (n := nameS t s.w) (by show _ ≤ _; omega)
  generalize pinS s (nameS t s.w) = R at *
  obtain ⟨o, c⟩ := R
  simp only at hM hpo ⊢
  by_cases hc : c = 0
  rotate_left
  · rw [if_neg hc] at hM
    subst hM
    (simp -dsimp (disch := first | omega | (simp only [hc, List.length_cons, List.length_nil, List.length_map, List.length_append, List.length_take, List.length_drop, List.length_replicate, List.length_set, mkG_len] <;> omega) | fail) only [push_cast, if_pos, decide_eq_true, decide_eq_false, hc, simprocAttr, -Nat.reduceSubDiff]) <;> (repeat (refine (aw_draw (by kernel_rfl)).2 ?_; simp -dsimp (disch := first | omega | (simp only [hc, List.length_cons, List.length_nil, List.length_map, List.length_append, List.length_take, List.length_drop, List.length_replicate, List.length_set, mkG_len] <;> omega) | fail) only [push_cast, if_pos, decide_eq_true, decide_eq_false, hc, simprocAttr, -Nat.reduceSubDiff]))
    rfl
  rw [if_pos hc] at hM
  subst hc
  have hdl := desc_len (t := t) (w := s.w)
  (simp -dsimp (disch := first | omega | (simp only [List.length_cons, List.length_nil, List.length_map, List.length_append, List.length_take, List.length_drop, List.length_replicate, List.length_set, mkG_len] <;> omega) | fail) only [push_cast, if_pos, decide_eq_true, decide_eq_false, simprocAttr, -Nat.reduceSubDiff]) <;> (repeat (refine (aw_draw (by kernel_rfl)).2 ?_; simp -dsimp (disch := first | omega | (simp only [List.length_cons, List.length_nil, List.length_map, List.length_append, List.length_take, List.length_drop, List.length_replicate, List.length_set, mkG_len] <;> omega) | fail) only [push_cast, if_pos, decide_eq_true, decide_eq_false, simprocAttr, -Nat.reduceSubDiff]))
  refine callC (implDescribe t s.w (by omega)) ?_
  (simp -dsimp (disch := first | omega | (simp only [List.length_cons, List.length_nil, List.length_map, List.length_append, List.length_take, List.length_drop, List.length_replicate, List.length_set, mkG_len] <;> omega) | fail) only [push_cast, if_pos, decide_eq_true, decide_eq_false, simprocAttr, -Nat.reduceSubDiff]) <;> (repeat (refine (aw_draw (by kernel_rfl)).2 ?_; simp -dsimp (disch := first | omega | (simp only [List.length_cons, List.length_nil, List.length_map, List.length_append, List.length_take, List.length_drop, List.length_replicate, List.length_set, mkG_len] <;> omega) | fail) only [push_cast, if_pos, decide_eq_true, decide_eq_false, simprocAttr, -Nat.reduceSubDiff]))
  refine callC (implFormList (descL t s.w).1 s.w (by omega)) ?_
  (simp -dsimp (disch := first | omega | (simp only [List.length_cons, List.length_nil, List.length_map, List.length_append, List.length_take, List.length_drop, List.length_replicate, List.length_set, mkG_len] <;> omega) | fail) only [push_cast, if_pos, decide_eq_true, decide_eq_false, simprocAttr, -Nat.reduceSubDiff]) <;> (repeat (refine (aw_draw (by kernel_rfl)).2 ?_; simp -dsimp (disch := first | omega | (simp only [List.length_cons, List.length_nil, List.length_map, List.length_append, List.length_take, List.length_drop, List.length_replicate, List.length_set, mkG_len] <;> omega) | fail) only [push_cast, if_pos, decide_eq_true, decide_eq_false, simprocAttr, -Nat.reduceSubDiff]))
  refine callC (implPieces t (by omega)) ?_
  have hsz := fun x (hx : x ∈ partsL t s.w) => parts_sz hx
  have hln := parts_len t s.w
  have hpl := pieces_len t
  have hL : [.sc (.string (formL (descL t s.w).1 s.w))] :: (piecesL t).map strR = (partsL t s.w).map strR := rfl
  have hLl : 1 + (piecesL t).length = (partsL t s.w).length := by unfold partsL; rw [List.length_cons]; omega
  generalize partsL t s.w = L at *
  generalize piecesL t = P at *
  generalize formL (descL t s.w).1 s.w = W at *
  (simp -dsimp (disch := first | omega | (simp only [hL, hLl, List.length_cons, List.length_nil, List.length_map, List.length_append, List.length_take, List.length_drop, List.length_replicate, List.length_set, mkG_len] <;> omega) | fail) only [push_cast, if_pos, decide_eq_true, decide_eq_false, hL, hLl, simprocAttr, -Nat.reduceSubDiff]) <;> (repeat (refine (aw_draw (by kernel_rfl)).2 ?_; simp -dsimp (disch := first | omega | (simp only [hL, hLl, List.length_cons, List.length_nil, List.length_map, List.length_append, List.length_take, List.length_drop, List.length_replicate, List.length_set, mkG_len] <;> omega) | fail) only [push_cast, if_pos, decide_eq_true, decide_eq_false, hL, hLl, simprocAttr, -Nat.reduceSubDiff]))
  refine loop_ind (α := Nat × Store) (fun q => q.1 ≤ L.length ∧ okStore q.2 ∧ putsF now q.2 (L.drop q.1) = M)
    (fun q => ⟨[(2, .sc (.int .i64 now)), (6, .pt 1 0 0), (8, .pt 4 0 0), (49, .ow 7 0 L.length), (50, .sc (.int .i64 L.length)), (51, .sc (.int .i64 q.1))],
      [(1, .bx [.sc (.int .i64 0), .sc (.int .i64 0), .ow 2 0 0, .ow 3 0 0]), (2, .ar 2 0 []), (3, .ar 1 0 []), (4, .bx [.sc (.int .i64 q.2.w), .sc (.int .i64 q.2.r), .ow 5 0 q.2.I.length, .ow 6 0 q.2.P.length]), (5, .ar 2 0 (q.2.I.map (itemC true))), (6, .ar 1 0 (q.2.P.map strR)), (7, .ar 1 0 (L.map strR))], 8⟩) (fun q => L.length - q.1) (0, o) ⟨Nat.zero_le _, hpo, by rw [hM]; rfl⟩ ?_ ?_
  · simp -dsimp (disch := first | omega | (simp only [hL, hLl, List.length_cons, List.length_nil, List.length_map, List.length_append, List.length_take, List.length_drop, List.length_replicate, List.length_set, mkG_len] <;> omega) | fail) only [push_cast, if_pos, decide_eq_true, decide_eq_false, hL, hLl, simprocAttr, -Nat.reduceSubDiff]
  rintro ⟨i, a⟩ ⟨hi, ha, hq⟩ ih
  replace hi : i ≤ L.length := hi
  replace ha : okStore a := ha
  replace hq : putsF now a (L.drop i) = M := hq
  by_cases h : i < L.length
  · obtain ⟨x, hx⟩ := ex_get h
    have hxs := hsz x (List.mem_of_getElem? hx)
    rw [drop_step hx, putsF] at hq
    (simp -dsimp (disch := first | omega | (simp only [h, hx, List.length_cons, List.length_nil, List.length_map, List.length_append, List.length_take, List.length_drop, List.length_replicate, List.length_set, mkG_len] <;> omega) | fail) only [push_cast, if_pos, decide_eq_true, decide_eq_false, h, hx, simprocAttr, -Nat.reduceSubDiff]) <;> (repeat (refine (aw_draw (by kernel_rfl)).2 ?_; simp -dsimp (disch := first | omega | (simp only [h, hx, List.length_cons, List.length_nil, List.length_map, List.length_append, List.length_take, List.length_drop, List.length_replicate, List.length_set, mkG_len] <;> omega) | fail) only [push_cast, if_pos, decide_eq_true, decide_eq_false, h, hx, simprocAttr, -Nat.reduceSubDiff]))
    refine callC (implPut a x now ha (by omega)) ?_
    have hpo := put_ok (now := now) (t := x) ha (by omega)
    generalize putF a x now = R at *
    obtain ⟨b, c⟩ := R
    simp only at hq hpo ⊢
    by_cases hc : c = 0
    · rw [if_pos hc] at hq
      subst hc
      (simp -dsimp (disch := first | omega | (simp only [h, hx, List.length_cons, List.length_nil, List.length_map, List.length_append, List.length_take, List.length_drop, List.length_replicate, List.length_set, mkG_len] <;> omega) | fail) only [push_cast, if_pos, decide_eq_true, decide_eq_false, h, hx, simprocAttr, -Nat.reduceSubDiff]) <;> (repeat (refine (aw_draw (by kernel_rfl)).2 ?_; simp -dsimp (disch := first | omega | (simp only [h, hx, List.length_cons, List.length_nil, List.length_map, List.length_append, List.length_take, List.length_drop, List.length_replicate, List.length_set, mkG_len] <;> omega) | fail) only [push_cast, if_pos, decide_eq_true, decide_eq_false, h, hx, simprocAttr, -Nat.reduceSubDiff]))
      refine ih (i + 1, b) _ (by show L.length - (i + 1) < L.length - i; omega) ⟨h, hpo, hq⟩ ?_
      simp -dsimp (disch := first | omega | (simp only [wr_id, List.length_cons, List.length_nil, List.length_map, List.length_append, List.length_take, List.length_drop, List.length_replicate, List.length_set, mkG_len] <;> omega) | fail) only [push_cast, if_pos, decide_eq_true, decide_eq_false, wr_id, simprocAttr, -Nat.reduceSubDiff]
    · rw [if_neg hc] at hq
      subst hq
      (simp -dsimp (disch := first | omega | (simp only [h, hx, hc, List.length_cons, List.length_nil, List.length_map, List.length_append, List.length_take, List.length_drop, List.length_replicate, List.length_set, mkG_len] <;> omega) | fail) only [push_cast, if_pos, decide_eq_true, decide_eq_false, h, hx, hc, simprocAttr, -Nat.reduceSubDiff]) <;> (repeat (refine (aw_draw (by kernel_rfl)).2 ?_; simp -dsimp (disch := first | omega | (simp only [h, hx, hc, List.length_cons, List.length_nil, List.length_map, List.length_append, List.length_take, List.length_drop, List.length_replicate, List.length_set, mkG_len] <;> omega) | fail) only [push_cast, if_pos, decide_eq_true, decide_eq_false, h, hx, hc, simprocAttr, -Nat.reduceSubDiff]))
      rfl
  · rw [List.drop_eq_nil_of_le (by omega), putsF] at hq
    subst hq
    (simp -dsimp (disch := first | omega | (simp only [h, List.length_cons, List.length_nil, List.length_map, List.length_append, List.length_take, List.length_drop, List.length_replicate, List.length_set, mkG_len] <;> omega) | fail) only [push_cast, if_pos, decide_eq_true, decide_eq_false, h, simprocAttr, -Nat.reduceSubDiff]) <;> (repeat (refine (aw_draw (by kernel_rfl)).2 ?_; simp -dsimp (disch := first | omega | (simp only [h, List.length_cons, List.length_nil, List.length_map, List.length_append, List.length_take, List.length_drop, List.length_replicate, List.length_set, mkG_len] <;> omega) | fail) only [push_cast, if_pos, decide_eq_true, decide_eq_false, h, simprocAttr, -Nat.reduceSubDiff]))
end Go.Proofs.YtgkncgiglmdnaaaGreatDoor.Mx

/- The law FnExactSave runs. -/
namespace Go.Proofs.YtgkncgiglmdnaaaGreatDoor.Mx
set_option linter.all false
open Go Go.RowKit Go.Proofs
set_option linter.unusedSimpArgs false
def E8 : Env := { T := T0, kp := look [(0, [0, 1, 2]), (1, [1, 2, 3]), (2, []), (3, [1, 2, 3]), (4, [1, 2, 3, 7]), (5, [1, 2, 3, 7]), (6, []), (7, [1, 2, 3]), (8, [1, 2, 3, 8, 9]), (9, [1, 2, 3, 8, 9, 10]), (10, [1, 2, 3, 8, 9, 10, 11, 12]), (11, []), (12, [1, 2, 3, 8, 9, 10, 11, 12]), (13, []), (14, [1, 2, 3, 8, 9, 10, 11, 12]), (15, [1, 2, 3, 8, 9, 10, 11, 12, 13]), (16, [1, 2, 3, 8, 9, 11, 12, 13]), (17, []), (18, [1, 2, 3, 8, 9, 11]), (19, [1, 2, 3, 8, 9, 11, 14]), (20, [1, 2, 3, 8, 9, 11, 14]), (21, [1, 2, 3, 8, 9, 11, 14, 15]), (22, [1, 2, 3, 8, 9, 11, 14, 15]), (23, []), (24, [1, 2, 3, 8, 9, 11, 14, 15]), (25, []), (26, [1, 2, 3, 8, 9, 11, 14]), (27, [8, 9, 11, 14, 16, 17]), (28, []), (29, [11, 14]), (30, [11, 14, 15]), (31, [14, 15]), (32, []), (33, [14, 15]), (34, []), (35, [])], dp := look2 [(12, [[], [], [1], [0, 1, 2], [0, 1, 2, 3]])], md := look3 [(15, 2, [1]), (19, 2, [1])] }
attribute [local push_cast] E8
set_option maxHeartbeats 2000000 in
theorem fnExactSave (s : Store) (n : Str) (now : Int) (hb : bdStore s) (hn : bdStr n) : Does Tryz.prog 8 [.ag (storeC false s), .sc (.string n), .sc (.int .i64 now)] (.sc (.bool true), []) := by
  refine does_of (E := E8) (rs := [.tmp 6]) (lent := []) tOk rfl Tryz.func8 rfl (by decide) rfl rfl (Nat.le_of_ble_eq_true rfl) (Nat.le_of_ble_eq_true rfl) ?_
  by_cases h1 : n.size ≤ 1048576
  rotate_left
  · (simp -dsimp (disch := first | omega | (simp only [List.length_cons, List.length_nil, List.length_map, List.length_append, List.length_take, List.length_drop, List.length_replicate, List.length_set, mkG_len] <;> omega) | fail) only [push_cast, if_pos, decide_eq_true, decide_eq_false, simprocAttr, -Nat.reduceSubDiff]) <;> (repeat (refine (aw_draw (by kernel_rfl)).2 ?_; simp -dsimp (disch := first | omega | (simp only [List.length_cons, List.length_nil, List.length_map, List.length_append, List.length_take, List.length_drop, List.length_replicate, List.length_set, mkG_len] <;> omega) | fail) only [push_cast, if_pos, decide_eq_true, decide_eq_false, simprocAttr, -Nat.reduceSubDiff]))
  (simp -dsimp (disch := first | omega | (simp only [List.length_cons, List.length_nil, List.length_map, List.length_append, List.length_take, List.length_drop, List.length_replicate, List.length_set, mkG_len] <;> omega) | fail) only [push_cast, if_pos, decide_eq_true, decide_eq_false, simprocAttr, -Nat.reduceSubDiff]) <;> (repeat (refine (aw_draw (by kernel_rfl)).2 ?_; simp -dsimp (disch := first | omega | (simp only [List.length_cons, List.length_nil, List.length_map, List.length_append, List.length_take, List.length_drop, List.length_replicate, List.length_set, mkG_len] <;> omega) | fail) only [push_cast, if_pos, decide_eq_true, decide_eq_false, simprocAttr, -Nat.reduceSubDiff]))
  refine callC (szStore_run s _ (by omega) (by omega) hb) ?_
  by_cases h2 : szStore s 1048576 < 0
  · (simp -dsimp (disch := first | omega | (simp only [h2, List.length_cons, List.length_nil, List.length_map, List.length_append, List.length_take, List.length_drop, List.length_replicate, List.length_set, mkG_len] <;> omega) | fail) only [push_cast, if_pos, decide_eq_true, decide_eq_false, h2, simprocAttr, -Nat.reduceSubDiff]) <;> (repeat (refine (aw_draw (by kernel_rfl)).2 ?_; simp -dsimp (disch := first | omega | (simp only [h2, List.length_cons, List.length_nil, List.length_map, List.length_append, List.length_take, List.length_drop, List.length_replicate, List.length_set, mkG_len] <;> omega) | fail) only [push_cast, if_pos, decide_eq_true, decide_eq_false, h2, simprocAttr, -Nat.reduceSubDiff]))
  have hs : okStore s := (szStore_ok s 1048576 (by omega)).2 (by omega)
  have hgo := save_ok (t := n) (now := now) hs
  (simp -dsimp (disch := first | omega | (simp only [List.length_cons, List.length_nil, List.length_map, List.length_append, List.length_take, List.length_drop, List.length_replicate, List.length_set, mkG_len] <;> omega) | fail) only [push_cast, if_pos, decide_eq_true, decide_eq_false, simprocAttr, -Nat.reduceSubDiff]) <;> (repeat (refine (aw_draw (by kernel_rfl)).2 ?_; simp -dsimp (disch := first | omega | (simp only [List.length_cons, List.length_nil, List.length_map, List.length_append, List.length_take, List.length_drop, List.length_replicate, List.length_set, mkG_len] <;> omega) | fail) only [push_cast, if_pos, decide_eq_true, decide_eq_false, simprocAttr, -Nat.reduceSubDiff]))
  refine callC (toStore_run s hs) ?_
  (simp -dsimp (disch := first | omega | (simp only [List.length_cons, List.length_nil, List.length_map, List.length_append, List.length_take, List.length_drop, List.length_replicate, List.length_set, mkG_len] <;> omega) | fail) only [push_cast, if_pos, decide_eq_true, decide_eq_false, simprocAttr, -Nat.reduceSubDiff]) <;> (repeat (refine (aw_draw (by kernel_rfl)).2 ?_; simp -dsimp (disch := first | omega | (simp only [List.length_cons, List.length_nil, List.length_map, List.length_append, List.length_take, List.length_drop, List.length_replicate, List.length_set, mkG_len] <;> omega) | fail) only [push_cast, if_pos, decide_eq_true, decide_eq_false, simprocAttr, -Nat.reduceSubDiff]))
  refine callC (specSave s n now hs (by omega)) ?_
  obtain ⟨⟨g, c⟩, hg⟩ : ∃ p, p = saveF s n now := ⟨_, rfl⟩
  rw [← hg] at hgo ⊢
  dsimp only at hgo
  have hm := scnStore_le g hgo
  have hm0 := scnStore_nn g
  have hq := scnStore_le s hs
  have hq0 := scnStore_nn s
  have hq2 := scnmk_Store g 1
  (simp -dsimp (disch := first | omega | (simp only [List.length_cons, List.length_nil, List.length_map, List.length_append, List.length_take, List.length_drop, List.length_replicate, List.length_set, mkG_len] <;> omega) | fail) only [push_cast, if_pos, decide_eq_true, decide_eq_false, simprocAttr, -Nat.reduceSubDiff]) <;> (repeat (refine (aw_draw (by kernel_rfl)).2 ?_; simp -dsimp (disch := first | omega | (simp only [List.length_cons, List.length_nil, List.length_map, List.length_append, List.length_take, List.length_drop, List.length_replicate, List.length_set, mkG_len] <;> omega) | fail) only [push_cast, if_pos, decide_eq_true, decide_eq_false, simprocAttr, -Nat.reduceSubDiff]))
  refine callC (toStore_run s hs) ?_
  (simp -dsimp (disch := first | omega | (simp only [List.length_cons, List.length_nil, List.length_map, List.length_append, List.length_take, List.length_drop, List.length_replicate, List.length_set, mkG_len] <;> omega) | fail) only [push_cast, if_pos, decide_eq_true, decide_eq_false, simprocAttr, -Nat.reduceSubDiff]) <;> (repeat (refine (aw_draw (by kernel_rfl)).2 ?_; simp -dsimp (disch := first | omega | (simp only [List.length_cons, List.length_nil, List.length_map, List.length_append, List.length_take, List.length_drop, List.length_replicate, List.length_set, mkG_len] <;> omega) | fail) only [push_cast, if_pos, decide_eq_true, decide_eq_false, simprocAttr, -Nat.reduceSubDiff]))
  refine callC (implSave s n now hs (by omega)) ?_
  rw [← hg]
  (simp -dsimp (disch := first | omega | (simp only [List.length_cons, List.length_nil, List.length_map, List.length_append, List.length_take, List.length_drop, List.length_replicate, List.length_set, mkG_len] <;> omega) | fail) only [push_cast, if_pos, decide_eq_true, decide_eq_false, simprocAttr, -Nat.reduceSubDiff]) <;> (repeat (refine (aw_draw (by kernel_rfl)).2 ?_; simp -dsimp (disch := first | omega | (simp only [List.length_cons, List.length_nil, List.length_map, List.length_append, List.length_take, List.length_drop, List.length_replicate, List.length_set, mkG_len] <;> omega) | fail) only [push_cast, if_pos, decide_eq_true, decide_eq_false, simprocAttr, -Nat.reduceSubDiff]))
  refine callC (eqStore g g hgo) ?_
  (simp -dsimp (disch := first | omega | (simp only [List.length_cons, List.length_nil, List.length_map, List.length_append, List.length_take, List.length_drop, List.length_replicate, List.length_set, mkG_len] <;> omega) | fail) only [push_cast, if_pos, decide_eq_true, decide_eq_false, simprocAttr, -Nat.reduceSubDiff]) <;> (repeat (refine (aw_draw (by kernel_rfl)).2 ?_; simp -dsimp (disch := first | omega | (simp only [List.length_cons, List.length_nil, List.length_map, List.length_append, List.length_take, List.length_drop, List.length_replicate, List.length_set, mkG_len] <;> omega) | fail) only [push_cast, if_pos, decide_eq_true, decide_eq_false, simprocAttr, -Nat.reduceSubDiff]))
  refine callC (toStore_run s hs) ?_
  (simp -dsimp (disch := first | omega | (simp only [List.length_cons, List.length_nil, List.length_map, List.length_append, List.length_take, List.length_drop, List.length_replicate, List.length_set, mkG_len] <;> omega) | fail) only [push_cast, if_pos, decide_eq_true, decide_eq_false, simprocAttr, -Nat.reduceSubDiff]) <;> (repeat (refine (aw_draw (by kernel_rfl)).2 ?_; simp -dsimp (disch := first | omega | (simp only [List.length_cons, List.length_nil, List.length_map, List.length_append, List.length_take, List.length_drop, List.length_replicate, List.length_set, mkG_len] <;> omega) | fail) only [push_cast, if_pos, decide_eq_true, decide_eq_false, simprocAttr, -Nat.reduceSubDiff]))
  refine callC (eqStore s s hs) ?_
  (simp -dsimp (disch := first | omega | (simp only [List.length_cons, List.length_nil, List.length_map, List.length_append, List.length_take, List.length_drop, List.length_replicate, List.length_set, mkG_len] <;> omega) | fail) only [push_cast, if_pos, decide_eq_true, decide_eq_false, simprocAttr, -Nat.reduceSubDiff]) <;> (repeat (refine (aw_draw (by kernel_rfl)).2 ?_; simp -dsimp (disch := first | omega | (simp only [List.length_cons, List.length_nil, List.length_map, List.length_append, List.length_take, List.length_drop, List.length_replicate, List.length_set, mkG_len] <;> omega) | fail) only [push_cast, if_pos, decide_eq_true, decide_eq_false, simprocAttr, -Nat.reduceSubDiff]))
  refine callC (markStore_run s 1 (by omega) (by omega)) ?_
  (simp -dsimp (disch := first | omega | (simp only [mkG_len, smkStore, List.length_cons, List.length_nil, List.length_map, List.length_append, List.length_take, List.length_drop, List.length_replicate, List.length_set, mkG_len] <;> omega) | fail) only [push_cast, if_pos, decide_eq_true, decide_eq_false, mkG_len, smkStore, simprocAttr, -Nat.reduceSubDiff]) <;> (repeat (refine (aw_draw (by kernel_rfl)).2 ?_; simp -dsimp (disch := first | omega | (simp only [mkG_len, smkStore, List.length_cons, List.length_nil, List.length_map, List.length_append, List.length_take, List.length_drop, List.length_replicate, List.length_set, mkG_len] <;> omega) | fail) only [push_cast, if_pos, decide_eq_true, decide_eq_false, mkG_len, smkStore, simprocAttr, -Nat.reduceSubDiff]))
  refine callC (eqStore g g hgo) ?_
  (simp -dsimp (disch := first | omega | (simp only [List.length_cons, List.length_nil, List.length_map, List.length_append, List.length_take, List.length_drop, List.length_replicate, List.length_set, mkG_len] <;> omega) | fail) only [push_cast, if_pos, decide_eq_true, decide_eq_false, simprocAttr, -Nat.reduceSubDiff]) <;> (repeat (refine (aw_draw (by kernel_rfl)).2 ?_; simp -dsimp (disch := first | omega | (simp only [List.length_cons, List.length_nil, List.length_map, List.length_append, List.length_take, List.length_drop, List.length_replicate, List.length_set, mkG_len] <;> omega) | fail) only [push_cast, if_pos, decide_eq_true, decide_eq_false, simprocAttr, -Nat.reduceSubDiff]))
  refine callC (markStore_run g 1 (by omega) (by omega)) ?_
  (simp -dsimp (disch := first | omega | (simp only [mkG_len, smkStore, List.length_cons, List.length_nil, List.length_map, List.length_append, List.length_take, List.length_drop, List.length_replicate, List.length_set, mkG_len] <;> omega) | fail) only [push_cast, if_pos, decide_eq_true, decide_eq_false, mkG_len, smkStore, simprocAttr, -Nat.reduceSubDiff]) <;> (repeat (refine (aw_draw (by kernel_rfl)).2 ?_; simp -dsimp (disch := first | omega | (simp only [mkG_len, smkStore, List.length_cons, List.length_nil, List.length_map, List.length_append, List.length_take, List.length_drop, List.length_replicate, List.length_set, mkG_len] <;> omega) | fail) only [push_cast, if_pos, decide_eq_true, decide_eq_false, mkG_len, smkStore, simprocAttr, -Nat.reduceSubDiff]))
  refine callC (heldStore_run (smkStore g 1) 1 (by omega) (by rw [scnmk_Store]; omega)) ?_
  rw [hsStore_mk g 1 (by omega)]
  (simp -dsimp (disch := first | omega | (simp only [List.length_cons, List.length_nil, List.length_map, List.length_append, List.length_take, List.length_drop, List.length_replicate, List.length_set, mkG_len] <;> omega) | fail) only [push_cast, if_pos, decide_eq_true, decide_eq_false, simprocAttr, -Nat.reduceSubDiff]) <;> (repeat (refine (aw_draw (by kernel_rfl)).2 ?_; simp -dsimp (disch := first | omega | (simp only [List.length_cons, List.length_nil, List.length_map, List.length_append, List.length_take, List.length_drop, List.length_replicate, List.length_set, mkG_len] <;> omega) | fail) only [push_cast, if_pos, decide_eq_true, decide_eq_false, simprocAttr, -Nat.reduceSubDiff]))
  refine callC (toStore_run s hs) ?_
  (simp -dsimp (disch := first | omega | (simp only [List.length_cons, List.length_nil, List.length_map, List.length_append, List.length_take, List.length_drop, List.length_replicate, List.length_set, mkG_len] <;> omega) | fail) only [push_cast, if_pos, decide_eq_true, decide_eq_false, simprocAttr, -Nat.reduceSubDiff]) <;> (repeat (refine (aw_draw (by kernel_rfl)).2 ?_; simp -dsimp (disch := first | omega | (simp only [List.length_cons, List.length_nil, List.length_map, List.length_append, List.length_take, List.length_drop, List.length_replicate, List.length_set, mkG_len] <;> omega) | fail) only [push_cast, if_pos, decide_eq_true, decide_eq_false, simprocAttr, -Nat.reduceSubDiff]))
  refine callC (implSave s n now hs (by omega)) ?_
  rw [← hg]
  (simp -dsimp (disch := first | omega | (simp only [List.length_cons, List.length_nil, List.length_map, List.length_append, List.length_take, List.length_drop, List.length_replicate, List.length_set, mkG_len] <;> omega) | fail) only [push_cast, if_pos, decide_eq_true, decide_eq_false, simprocAttr, -Nat.reduceSubDiff]) <;> (repeat (refine (aw_draw (by kernel_rfl)).2 ?_; simp -dsimp (disch := first | omega | (simp only [List.length_cons, List.length_nil, List.length_map, List.length_append, List.length_take, List.length_drop, List.length_replicate, List.length_set, mkG_len] <;> omega) | fail) only [push_cast, if_pos, decide_eq_true, decide_eq_false, simprocAttr, -Nat.reduceSubDiff]))
  refine callC (eqStore g g hgo) ?_
  (simp -dsimp (disch := first | omega | (simp only [List.length_cons, List.length_nil, List.length_map, List.length_append, List.length_take, List.length_drop, List.length_replicate, List.length_set, mkG_len] <;> omega) | fail) only [push_cast, if_pos, decide_eq_true, decide_eq_false, simprocAttr, -Nat.reduceSubDiff]) <;> (repeat (refine (aw_draw (by kernel_rfl)).2 ?_; simp -dsimp (disch := first | omega | (simp only [List.length_cons, List.length_nil, List.length_map, List.length_append, List.length_take, List.length_drop, List.length_replicate, List.length_set, mkG_len] <;> omega) | fail) only [push_cast, if_pos, decide_eq_true, decide_eq_false, simprocAttr, -Nat.reduceSubDiff]))
  refine callC (heldStore_run (smkStore g 1) 1 (by omega) (by rw [scnmk_Store]; omega)) ?_
  rw [hsStore_mk g 1 (by omega)]
  (simp -dsimp (disch := first | omega | (simp only [List.length_cons, List.length_nil, List.length_map, List.length_append, List.length_take, List.length_drop, List.length_replicate, List.length_set, mkG_len] <;> omega) | fail) only [push_cast, if_pos, decide_eq_true, decide_eq_false, simprocAttr, -Nat.reduceSubDiff]) <;> (repeat (refine (aw_draw (by kernel_rfl)).2 ?_; simp -dsimp (disch := first | omega | (simp only [List.length_cons, List.length_nil, List.length_map, List.length_append, List.length_take, List.length_drop, List.length_replicate, List.length_set, mkG_len] <;> omega) | fail) only [push_cast, if_pos, decide_eq_true, decide_eq_false, simprocAttr, -Nat.reduceSubDiff]))
end Go.Proofs.YtgkncgiglmdnaaaGreatDoor.Mx

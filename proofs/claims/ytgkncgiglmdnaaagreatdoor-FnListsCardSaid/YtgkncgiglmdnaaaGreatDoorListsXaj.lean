/- A machine over values for Go functions, proved sound, and functions run on it: texts F33, VB, F3, F21, S2, F38, F39, V6, VU, VX, B3. -/
import Derived.Test.YtgkncgiglmdnaaaGreatDoorShB
import Derived.Test.YtgkncgiglmdnaaaGreatDoorListsXag
import Derived.Test.YtgkncgiglmdnaaaGreatDoorListsXah
import Derived.Test.YtgkncgiglmdnaaaGreatDoorListsXai
/- Pieces, descriptions and names: the program's; descriptions and names: the reference's. -/
namespace Go.Proofs.YtgkncgiglmdnaaaGreatDoor.Mx
set_option linter.all false
open Go Go.RowKit Go.Proofs
set_option linter.unusedSimpArgs false
def E21 : Env := { T := T0, kp := look [(0, [0]), (1, [0]), (2, []), (3, [0]), (4, [0, 3]), (5, [0, 3, 4]), (6, [0, 3, 4, 11, 12]), (7, [0, 3, 4, 11, 12]), (8, [0, 3, 4, 5, 11, 12]), (9, [0, 3, 4, 5, 6, 11, 12]), (10, [0, 3, 4, 5, 11, 12]), (11, [0, 3, 5, 11, 12]), (12, [0, 3, 4, 11, 12]), (13, [0, 3, 4]), (14, [0, 3, 4]), (15, [3])] }
attribute [local push_cast] E21
set_option maxRecDepth 20000 in
set_option maxHeartbeats 1000000 in
theorem implPieces (t : Str) (ht : t.size ≤ 100000000) : Does Tryz.prog 21 [.sc (.string t)] (.sl true 1 ((piecesL t).map strR), []) := by
  refine does_of (E := E21) (rs := [.tmp 2]) (lent := []) tOk rfl Tryz.func21 rfl (by decide) rfl rfl (Nat.le_of_ble_eq_true rfl) (Nat.le_of_ble_eq_true rfl) ?_
  obtain ⟨M, hM⟩ : ∃ M, M = piecesL t := ⟨_, rfl⟩
  rw [← hM]
  unfold piecesL at hM
  by_cases hbig : 3000 < t.size
  · rw [if_pos hbig] at hM
    subst hM
    (simp -dsimp (disch := first | omega | (simp only [hbig, List.length_cons, List.length_nil, List.length_map, List.length_append, List.length_take, List.length_drop, List.length_replicate, List.length_set, mkG_len] <;> omega) | fail) only [push_cast, if_pos, decide_eq_true, decide_eq_false, hbig, simprocAttr, -Nat.reduceSubDiff]) <;> (repeat (refine (aw_draw (by kernel_rfl)).2 ?_; simp -dsimp (disch := first | omega | (simp only [hbig, List.length_cons, List.length_nil, List.length_map, List.length_append, List.length_take, List.length_drop, List.length_replicate, List.length_set, mkG_len] <;> omega) | fail) only [push_cast, if_pos, decide_eq_true, decide_eq_false, hbig, simprocAttr, -Nat.reduceSubDiff]))
  rw [if_neg hbig] at hM
  (simp -dsimp (disch := first | omega | (simp only [hbig, List.length_cons, List.length_nil, List.length_map, List.length_append, List.length_take, List.length_drop, List.length_replicate, List.length_set, mkG_len] <;> omega) | fail) only [push_cast, if_pos, decide_eq_true, decide_eq_false, hbig, simprocAttr, -Nat.reduceSubDiff]) <;> (repeat (refine (aw_draw (by kernel_rfl)).2 ?_; simp -dsimp (disch := first | omega | (simp only [hbig, List.length_cons, List.length_nil, List.length_map, List.length_append, List.length_take, List.length_drop, List.length_replicate, List.length_set, mkG_len] <;> omega) | fail) only [push_cast, if_pos, decide_eq_true, decide_eq_false, hbig, simprocAttr, -Nat.reduceSubDiff]))
  refine loop_ind (α := Nat × Nat × List Str) (fun q => q.1 ≤ t.size ∧ q.2.1 ≤ q.1 ∧ q.1 ≤ q.2.1 + 63 ∧ q.2.2.length ≤ q.1 ∧ q.2.2 ++ (pcF (curB t q.2.1 q.1) ((bt t).drop q.1)).map stB = M)
    (fun q => ⟨[(0, .sc (.string t)), (3, .ow 1 0 q.2.2.length), (4, .sc (.int .i64 q.2.1)), (11, .sc (.int .i64 t.size)), (12, .sc (.int .i64 q.1))], [(1, .ar 1 0 (q.2.2.map strR))], 2⟩) (fun q => t.size - q.1) (0, 0, []) ⟨Nat.zero_le _, Nat.le_refl _, by simp only; omega, Nat.le_refl _, by rw [cur_nil]; simp [hM]⟩ ?_ ?_
  · simp -dsimp (disch := first | omega | (simp only [List.length_cons, List.length_nil, List.length_map, List.length_append, List.length_take, List.length_drop, List.length_replicate, List.length_set, mkG_len] <;> omega) | fail) only [push_cast, if_pos, decide_eq_true, decide_eq_false, simprocAttr, -Nat.reduceSubDiff]
  rintro ⟨i, a, acc⟩ ⟨hi, ha, hl, hac, hy⟩ ih
  replace hi : i ≤ t.size := hi
  replace ha : a ≤ i := ha
  replace hl : i ≤ a + 63 := hl
  replace hac : acc.length ≤ i := hac
  replace hy : acc ++ (pcF (curB t a i) ((bt t).drop i)).map stB = M := hy
  by_cases h : i < t.size
  · obtain ⟨x, hx⟩ := ex_get (by rw [bt_len]; exact h : i < (bt t).length)
    rw [drop_step hx] at hy
    have hst := cur_step hx ha
    have hex : t.extract a (i + 1) = stB (curB t a i ++ [x]) := by rw [ext_cur, hst]
    have hen := ends_ext (s := t) (a := a) (i := i + 1) h (by omega)
    rw [hst] at hen
    have e1 : ((i : Int) + 1).toNat = i + 1 := by omega
    have e2 : a + ((i : Int) + 1 - (a : Int)).toNat = i + 1 := by omega
    by_cases h64 : i + 1 - a = 64
    · have hend : endsB (curB t a i ++ [x]) = true := by rw [hen]; simp [h64]
      rw [pc_yes hend] at hy
      have n64 : (i : Int) + 1 - (a : Int) = 64 := by omega
      have e5 : a + 64 = i + 1 := by omega
      (simp -dsimp (disch := first | omega | (simp only [e1, e2, n64, e5, wr_id, List.length_cons, List.length_nil, List.length_map, List.length_append, List.length_take, List.length_drop, List.length_replicate, List.length_set, mkG_len] <;> omega) | fail) only [push_cast, if_pos, decide_eq_true, decide_eq_false, e1, e2, n64, e5, wr_id, simprocAttr, -Nat.reduceSubDiff]) <;> (repeat (refine (aw_draw (by kernel_rfl)).2 ?_; simp -dsimp (disch := first | omega | (simp only [e1, e2, n64, e5, wr_id, List.length_cons, List.length_nil, List.length_map, List.length_append, List.length_take, List.length_drop, List.length_replicate, List.length_set, mkG_len] <;> omega) | fail) only [push_cast, if_pos, decide_eq_true, decide_eq_false, e1, e2, n64, e5, wr_id, simprocAttr, -Nat.reduceSubDiff]))
      refine ih (i + 1, i + 1, acc ++ [t.extract a (i + 1)]) _ (by show t.size - (i + 1) < t.size - i; omega) ⟨h, Nat.le_refl _, by show i + 1 ≤ i + 1 + 63; omega, by simp only [List.length_append, List.length_cons, List.length_nil]; omega, by rw [← hy, cur_nil, hex]; simp⟩ ?_
      simp -dsimp (disch := first | omega | (simp only [wr_id, List.map_append, List.length_append, List.length_cons, List.length_nil, List.length_cons, List.length_nil, List.length_map, List.length_append, List.length_take, List.length_drop, List.length_replicate, List.length_set, mkG_len] <;> omega) | fail) only [push_cast, if_pos, decide_eq_true, decide_eq_false, wr_id, List.map_append, List.length_append, List.length_cons, List.length_nil, simprocAttr, -Nat.reduceSubDiff]
    have n64 : ¬ (i : Int) + 1 - (a : Int) = 64 := by omega
    by_cases h8 : 8 ≤ i + 1 - a
    rotate_left
    · have hend : endsB (curB t a i ++ [x]) = false := by rw [hen]; simp; intro hc; omega
      rw [pc_no hend, ← hst] at hy
      have n8 : ¬ (8 : Int) ≤ (i : Int) + 1 - (a : Int) := by omega
      (simp -dsimp (disch := first | omega | (simp only [e1, e2, n64, n8, wr_id, List.length_cons, List.length_nil, List.length_map, List.length_append, List.length_take, List.length_drop, List.length_replicate, List.length_set, mkG_len] <;> omega) | fail) only [push_cast, if_pos, decide_eq_true, decide_eq_false, e1, e2, n64, n8, wr_id, simprocAttr, -Nat.reduceSubDiff]) <;> (repeat (refine (aw_draw (by kernel_rfl)).2 ?_; simp -dsimp (disch := first | omega | (simp only [e1, e2, n64, n8, wr_id, List.length_cons, List.length_nil, List.length_map, List.length_append, List.length_take, List.length_drop, List.length_replicate, List.length_set, mkG_len] <;> omega) | fail) only [push_cast, if_pos, decide_eq_true, decide_eq_false, e1, e2, n64, n8, wr_id, simprocAttr, -Nat.reduceSubDiff]))
      refine ih (i + 1, a, acc) _ (by show t.size - (i + 1) < t.size - i; omega) ⟨h, by show a ≤ i + 1; omega, by show i + 1 ≤ a + 63; omega, by show acc.length ≤ i + 1; omega, hy⟩ ?_
      simp -dsimp (disch := first | omega | (simp only [wr_id, List.length_cons, List.length_nil, List.length_map, List.length_append, List.length_take, List.length_drop, List.length_replicate, List.length_set, mkG_len] <;> omega) | fail) only [push_cast, if_pos, decide_eq_true, decide_eq_false, wr_id, simprocAttr, -Nat.reduceSubDiff]
    have n8 : (8 : Int) ≤ (i : Int) + 1 - (a : Int) := by omega
    have e3 : ((i : Int) + 1 - 8).toNat = i + 1 - 8 := by omega
    have e4 : i + 1 - 8 + ((i : Int) + 1 - ((i : Int) + 1 - 8)).toNat = i + 1 := by omega
    have hz := ext_size (s := t) (a := i + 1 - 8) (b := i + 1) h
    have hs := sum64 (t.extract (i + 1 - 8) (i + 1)) (by omega)
    have hr := hash64_r (bt (t.extract (i + 1 - 8) (i + 1)))
    have htm := sixteen _ hr.1
    generalize hash64 (bt (t.extract (i + 1 - 8) (i + 1))) = H at *
    have hn64 : ¬ 64 ≤ i + 1 - a := by omega
    by_cases hH : H % 16 = 0
    · have hend : endsB (curB t a i ++ [x]) = true := by rw [hen]; simp [h8, hH]
      rw [pc_yes hend] at hy
      (simp -dsimp (disch := first | omega | (simp only [e1, e2, e3, e4, n64, n8, wr_id, List.length_cons, List.length_nil, List.length_map, List.length_append, List.length_take, List.length_drop, List.length_replicate, List.length_set, mkG_len] <;> omega) | fail) only [push_cast, if_pos, decide_eq_true, decide_eq_false, e1, e2, e3, e4, n64, n8, wr_id, simprocAttr, -Nat.reduceSubDiff]) <;> (repeat (refine (aw_draw (by kernel_rfl)).2 ?_; simp -dsimp (disch := first | omega | (simp only [e1, e2, e3, e4, n64, n8, wr_id, List.length_cons, List.length_nil, List.length_map, List.length_append, List.length_take, List.length_drop, List.length_replicate, List.length_set, mkG_len] <;> omega) | fail) only [push_cast, if_pos, decide_eq_true, decide_eq_false, e1, e2, e3, e4, n64, n8, wr_id, simprocAttr, -Nat.reduceSubDiff]))
      refine callC hs ?_
      (simp -dsimp (disch := first | omega | (simp only [htm, hH, e1, e2, wr_id, List.length_cons, List.length_nil, List.length_map, List.length_append, List.length_take, List.length_drop, List.length_replicate, List.length_set, mkG_len] <;> omega) | fail) only [push_cast, if_pos, decide_eq_true, decide_eq_false, htm, hH, e1, e2, wr_id, simprocAttr, -Nat.reduceSubDiff]) <;> (repeat (refine (aw_draw (by kernel_rfl)).2 ?_; simp -dsimp (disch := first | omega | (simp only [htm, hH, e1, e2, wr_id, List.length_cons, List.length_nil, List.length_map, List.length_append, List.length_take, List.length_drop, List.length_replicate, List.length_set, mkG_len] <;> omega) | fail) only [push_cast, if_pos, decide_eq_true, decide_eq_false, htm, hH, e1, e2, wr_id, simprocAttr, -Nat.reduceSubDiff]))
      refine ih (i + 1, i + 1, acc ++ [t.extract a (i + 1)]) _ (by show t.size - (i + 1) < t.size - i; omega) ⟨h, Nat.le_refl _, by show i + 1 ≤ i + 1 + 63; omega, by simp only [List.length_append, List.length_cons, List.length_nil]; omega, by rw [← hy, cur_nil, hex]; simp⟩ ?_
      simp -dsimp (disch := first | omega | (simp only [wr_id, List.map_append, List.length_append, List.length_cons, List.length_nil, List.length_cons, List.length_nil, List.length_map, List.length_append, List.length_take, List.length_drop, List.length_replicate, List.length_set, mkG_len] <;> omega) | fail) only [push_cast, if_pos, decide_eq_true, decide_eq_false, wr_id, List.map_append, List.length_append, List.length_cons, List.length_nil, simprocAttr, -Nat.reduceSubDiff]
    · have hend : endsB (curB t a i ++ [x]) = false := by rw [hen]; simp [hn64, hH]
      rw [pc_no hend, ← hst] at hy
      (simp -dsimp (disch := first | omega | (simp only [e1, e2, e3, e4, n64, n8, wr_id, List.length_cons, List.length_nil, List.length_map, List.length_append, List.length_take, List.length_drop, List.length_replicate, List.length_set, mkG_len] <;> omega) | fail) only [push_cast, if_pos, decide_eq_true, decide_eq_false, e1, e2, e3, e4, n64, n8, wr_id, simprocAttr, -Nat.reduceSubDiff]) <;> (repeat (refine (aw_draw (by kernel_rfl)).2 ?_; simp -dsimp (disch := first | omega | (simp only [e1, e2, e3, e4, n64, n8, wr_id, List.length_cons, List.length_nil, List.length_map, List.length_append, List.length_take, List.length_drop, List.length_replicate, List.length_set, mkG_len] <;> omega) | fail) only [push_cast, if_pos, decide_eq_true, decide_eq_false, e1, e2, e3, e4, n64, n8, wr_id, simprocAttr, -Nat.reduceSubDiff]))
      refine callC hs ?_
      (simp -dsimp (disch := first | omega | (simp only [htm, hH, List.length_cons, List.length_nil, List.length_map, List.length_append, List.length_take, List.length_drop, List.length_replicate, List.length_set, mkG_len] <;> omega) | fail) only [push_cast, if_pos, decide_eq_true, decide_eq_false, htm, hH, simprocAttr, -Nat.reduceSubDiff]) <;> (repeat (refine (aw_draw (by kernel_rfl)).2 ?_; simp -dsimp (disch := first | omega | (simp only [htm, hH, List.length_cons, List.length_nil, List.length_map, List.length_append, List.length_take, List.length_drop, List.length_replicate, List.length_set, mkG_len] <;> omega) | fail) only [push_cast, if_pos, decide_eq_true, decide_eq_false, htm, hH, simprocAttr, -Nat.reduceSubDiff]))
      refine ih (i + 1, a, acc) _ (by show t.size - (i + 1) < t.size - i; omega) ⟨h, by show a ≤ i + 1; omega, by show i + 1 ≤ a + 63; omega, by show acc.length ≤ i + 1; omega, hy⟩ ?_
      simp -dsimp (disch := first | omega | (simp only [wr_id, List.length_cons, List.length_nil, List.length_map, List.length_append, List.length_take, List.length_drop, List.length_replicate, List.length_set, mkG_len] <;> omega) | fail) only [push_cast, if_pos, decide_eq_true, decide_eq_false, wr_id, simprocAttr, -Nat.reduceSubDiff]
  · have hi : i = t.size := by omega
    have hd : (bt t).drop i = [] := List.drop_eq_nil_of_le (by rw [bt_len]; omega)
    have hcl := cur_len (s := t) (a := a) (i := i) (by omega)
    rw [hd] at hy
    by_cases hai : a < t.size
    · have hne : ¬ curB t a i = [] := fun e => by rw [e] at hcl; simp at hcl; omega
      rw [pcF, if_neg hne] at hy
      have hex : t.extract a t.size = stB (curB t a i) := by rw [ext_cur, hi]
      have hy : acc.map strR ++ [[.sc (.string (t.extract a t.size))]] = M.map strR := by rw [← hy, hex]; simp [strR]
      have e2 : a + ((t.size : Int) - (a : Int)).toNat = t.size := by omega
      (simp -dsimp (disch := first | omega | (simp only [hi, hai, List.length_cons, List.length_nil, List.length_map, List.length_append, List.length_take, List.length_drop, List.length_replicate, List.length_set, mkG_len] <;> omega) | fail) only [push_cast, if_pos, decide_eq_true, decide_eq_false, hi, hai, simprocAttr, -Nat.reduceSubDiff]) <;> (repeat (refine (aw_draw (by kernel_rfl)).2 ?_; simp -dsimp (disch := first | omega | (simp only [hi, hai, List.length_cons, List.length_nil, List.length_map, List.length_append, List.length_take, List.length_drop, List.length_replicate, List.length_set, mkG_len] <;> omega) | fail) only [push_cast, if_pos, decide_eq_true, decide_eq_false, hi, hai, simprocAttr, -Nat.reduceSubDiff]))
      rw [e2, hy]
    · have he : curB t a i = [] := List.length_eq_zero_iff.1 (by rw [hcl]; omega)
      rw [pc_end _ he] at hy
      have hy : acc = M := by simpa using hy
      subst hy
      (simp -dsimp (disch := first | omega | (simp only [hi, hai, List.length_cons, List.length_nil, List.length_map, List.length_append, List.length_take, List.length_drop, List.length_replicate, List.length_set, mkG_len] <;> omega) | fail) only [push_cast, if_pos, decide_eq_true, decide_eq_false, hi, hai, simprocAttr, -Nat.reduceSubDiff]) <;> (repeat (refine (aw_draw (by kernel_rfl)).2 ?_; simp -dsimp (disch := first | omega | (simp only [hi, hai, List.length_cons, List.length_nil, List.length_map, List.length_append, List.length_take, List.length_drop, List.length_replicate, List.length_set, mkG_len] <;> omega) | fail) only [push_cast, if_pos, decide_eq_true, decide_eq_false, hi, hai, simprocAttr, -Nat.reduceSubDiff]))
def E72 : Env := { T := T0, kp := look [(0, [0, 1]), (1, [0, 1, 4]), (2, [4]), (3, [0, 1, 4]), (4, [0, 1, 4, 6]), (5, [1, 4, 6, 22, 23, 24]), (6, [1, 4, 6, 22, 23, 24]), (7, [1, 4, 6, 8, 22, 23, 24]), (8, [1, 4, 6, 22, 23, 24]), (9, [4, 6])], dp := look2 [(7, [[], [0], [], [], [2, 3], [2, 3, 4], [0, 1, 2, 3, 4, 5], [0, 1, 2, 3, 4, 5, 6], [0, 1, 2, 3, 4, 5, 6, 7]])] }
attribute [local push_cast] E72
set_option maxRecDepth 20000 in
set_option maxHeartbeats 1000000 in
theorem implDescribe0 (t : Str) (w : Int) (ht : t.size ≤ 100000000) : Does Tryz.prog 72 [.sc (.string t), .sc (.int .i64 w)] (.tu [.ag (lstC true (descL t w).1), .sc (.bool (descL t w).2)], []) := by
  refine does_of (E := E72) (rs := [.cell 4 27, .tmp 5]) (lent := []) tOk rfl Tryz.func72 rfl (by decide) rfl rfl (Nat.le_of_ble_eq_true rfl) (Nat.le_of_ble_eq_true rfl) ?_
  obtain ⟨M, hM⟩ : ∃ M, M = descL t w := ⟨_, rfl⟩
  rw [← hM]
  unfold descL at hM
  by_cases hbig : 3000 < t.size
  · rw [if_pos (.inl hbig)] at hM
    subst hM
    (simp -dsimp (disch := first | omega | (simp only [hbig, emL, List.length_cons, List.length_nil, List.length_map, List.length_append, List.length_take, List.length_drop, List.length_replicate, List.length_set, mkG_len] <;> omega) | fail) only [push_cast, if_pos, decide_eq_true, decide_eq_false, hbig, emL, simprocAttr, -Nat.reduceSubDiff]) <;> (repeat (refine (aw_draw (by kernel_rfl)).2 ?_; simp -dsimp (disch := first | omega | (simp only [hbig, emL, List.length_cons, List.length_nil, List.length_map, List.length_append, List.length_take, List.length_drop, List.length_replicate, List.length_set, mkG_len] <;> omega) | fail) only [push_cast, if_pos, decide_eq_true, decide_eq_false, hbig, emL, simprocAttr, -Nat.reduceSubDiff]))
  (simp -dsimp (disch := first | omega | (simp only [hbig, List.length_cons, List.length_nil, List.length_map, List.length_append, List.length_take, List.length_drop, List.length_replicate, List.length_set, mkG_len] <;> omega) | fail) only [push_cast, if_pos, decide_eq_true, decide_eq_false, hbig, simprocAttr, -Nat.reduceSubDiff]) <;> (repeat (refine (aw_draw (by kernel_rfl)).2 ?_; simp -dsimp (disch := first | omega | (simp only [hbig, List.length_cons, List.length_nil, List.length_map, List.length_append, List.length_take, List.length_drop, List.length_replicate, List.length_set, mkG_len] <;> omega) | fail) only [push_cast, if_pos, decide_eq_true, decide_eq_false, hbig, simprocAttr, -Nat.reduceSubDiff]))
  refine callC (widthOk w) ?_
  cases hw : inB w 1 8 with
  | false =>
    rw [if_pos (.inr hw)] at hM
    subst hM
    (simp -dsimp (disch := first | omega | (simp only [emL, List.length_cons, List.length_nil, List.length_map, List.length_append, List.length_take, List.length_drop, List.length_replicate, List.length_set, mkG_len] <;> omega) | fail) only [push_cast, if_pos, decide_eq_true, decide_eq_false, emL, simprocAttr, -Nat.reduceSubDiff]) <;> (repeat (refine (aw_draw (by kernel_rfl)).2 ?_; simp -dsimp (disch := first | omega | (simp only [emL, List.length_cons, List.length_nil, List.length_map, List.length_append, List.length_take, List.length_drop, List.length_replicate, List.length_set, mkG_len] <;> omega) | fail) only [push_cast, if_pos, decide_eq_true, decide_eq_false, emL, simprocAttr, -Nat.reduceSubDiff]))
  | true =>
  rw [if_neg (by rintro (q | q); exact hbig q; rw [hw] at q; cases q)] at hM
  subst hM
  (simp -dsimp (disch := first | omega | (simp only [List.length_cons, List.length_nil, List.length_map, List.length_append, List.length_take, List.length_drop, List.length_replicate, List.length_set, mkG_len] <;> omega) | fail) only [push_cast, if_pos, decide_eq_true, decide_eq_false, simprocAttr, -Nat.reduceSubDiff]) <;> (repeat (refine (aw_draw (by kernel_rfl)).2 ?_; simp -dsimp (disch := first | omega | (simp only [List.length_cons, List.length_nil, List.length_map, List.length_append, List.length_take, List.length_drop, List.length_replicate, List.length_set, mkG_len] <;> omega) | fail) only [push_cast, if_pos, decide_eq_true, decide_eq_false, simprocAttr, -Nat.reduceSubDiff]))
  refine callC (implPieces t ht) ?_
  have hpl := pieces_len t
  have hps := fun p (hp : p ∈ piecesL t) => pieces_sz hp
  generalize piecesL t = P at *
  (simp -dsimp (disch := first | omega | (simp only [List.length_cons, List.length_nil, List.length_map, List.length_append, List.length_take, List.length_drop, List.length_replicate, List.length_set, mkG_len] <;> omega) | fail) only [push_cast, if_pos, decide_eq_true, decide_eq_false, simprocAttr, -Nat.reduceSubDiff]) <;> (repeat (refine (aw_draw (by kernel_rfl)).2 ?_; simp -dsimp (disch := first | omega | (simp only [List.length_cons, List.length_nil, List.length_map, List.length_append, List.length_take, List.length_drop, List.length_replicate, List.length_set, mkG_len] <;> omega) | fail) only [push_cast, if_pos, decide_eq_true, decide_eq_false, simprocAttr, -Nat.reduceSubDiff]))
  refine loop_ind (α := Nat) (fun i => i ≤ P.length)
    (fun i => ⟨[(1, .sc (.int .i64 w)), (4, .pt 1 0 0), (6, .pt 3 0 0), (22, .ow 5 0 P.length), (23, .sc (.int .i64 P.length)), (24, .sc (.int .i64 i))],
      [(1, .bx [.sc (.int .i64 0), .ow 2 0 0]), (2, .ar 1 0 []), (3, .bx [.sc (.int .i64 t.size), .ow 4 0 ((P.take i).map fun p => sumS p w).length]), (4, .ar 1 0 (((P.take i).map fun p => sumS p w).map strR)), (5, .ar 1 0 (P.map strR))], 6⟩) (fun i => P.length - i) 0 (Nat.zero_le _) ?_ ?_
  · simp -dsimp (disch := first | omega | (simp only [List.take_zero, List.map_nil, List.length_cons, List.length_nil, List.length_map, List.length_append, List.length_take, List.length_drop, List.length_replicate, List.length_set, mkG_len] <;> omega) | fail) only [push_cast, if_pos, decide_eq_true, decide_eq_false, List.take_zero, List.map_nil, simprocAttr, -Nat.reduceSubDiff]
  intro i hi ih
  have hil : ((P.take i).map fun p => sumS p w).length = i := by rw [List.length_map, List.length_take]; omega
  by_cases h : i < P.length
  · obtain ⟨x, hx⟩ := ex_get h
    have hxs := hps x (List.mem_of_getElem? hx)
    have hst : ((P.take (i + 1)).map fun p => sumS p w) = ((P.take i).map fun p => sumS p w) ++ [sumS x w] := by rw [take_step hx, List.map_append]; rfl
    (simp -dsimp (disch := first | omega | (simp only [hx, List.length_cons, List.length_nil, List.length_map, List.length_append, List.length_take, List.length_drop, List.length_replicate, List.length_set, mkG_len] <;> omega) | fail) only [push_cast, if_pos, decide_eq_true, decide_eq_false, hx, simprocAttr, -Nat.reduceSubDiff]) <;> (repeat (refine (aw_draw (by kernel_rfl)).2 ?_; simp -dsimp (disch := first | omega | (simp only [hx, List.length_cons, List.length_nil, List.length_map, List.length_append, List.length_take, List.length_drop, List.length_replicate, List.length_set, mkG_len] <;> omega) | fail) only [push_cast, if_pos, decide_eq_true, decide_eq_false, hx, simprocAttr, -Nat.reduceSubDiff]))
    refine callC (implSum x w (by omega)) ?_
    (simp -dsimp (disch := first | omega | (simp only [hx, List.length_cons, List.length_nil, List.length_map, List.length_append, List.length_take, List.length_drop, List.length_replicate, List.length_set, mkG_len] <;> omega) | fail) only [push_cast, if_pos, decide_eq_true, decide_eq_false, hx, simprocAttr, -Nat.reduceSubDiff]) <;> (repeat (refine (aw_draw (by kernel_rfl)).2 ?_; simp -dsimp (disch := first | omega | (simp only [hx, List.length_cons, List.length_nil, List.length_map, List.length_append, List.length_take, List.length_drop, List.length_replicate, List.length_set, mkG_len] <;> omega) | fail) only [push_cast, if_pos, decide_eq_true, decide_eq_false, hx, simprocAttr, -Nat.reduceSubDiff]))
    refine ih (i + 1) _ (by omega) h ?_
    rw [hst]
    simp -dsimp (disch := first | omega | (simp only [wr_id, List.map_append, List.length_append, List.length_cons, List.length_nil, List.map_cons, List.map_nil, List.length_cons, List.length_nil, List.length_map, List.length_append, List.length_take, List.length_drop, List.length_replicate, List.length_set, mkG_len] <;> omega) | fail) only [push_cast, if_pos, decide_eq_true, decide_eq_false, wr_id, List.map_append, List.length_append, List.length_cons, List.length_nil, List.map_cons, List.map_nil, simprocAttr, -Nat.reduceSubDiff]
  · have hi : i = P.length := by omega
    subst hi
    rw [List.take_length] at hil ⊢
    (simp -dsimp (disch := first | omega | (simp only [List.length_map, List.length_cons, List.length_nil, List.length_map, List.length_append, List.length_take, List.length_drop, List.length_replicate, List.length_set, mkG_len] <;> omega) | fail) only [push_cast, if_pos, decide_eq_true, decide_eq_false, List.length_map, simprocAttr, -Nat.reduceSubDiff]) <;> (repeat (refine (aw_draw (by kernel_rfl)).2 ?_; simp -dsimp (disch := first | omega | (simp only [List.length_map, List.length_cons, List.length_nil, List.length_map, List.length_append, List.length_take, List.length_drop, List.length_replicate, List.length_set, mkG_len] <;> omega) | fail) only [push_cast, if_pos, decide_eq_true, decide_eq_false, List.length_map, simprocAttr, -Nat.reduceSubDiff]))
def E17 : Env := { T := T0, kp := look [(0, [0, 1]), (1, [0, 1, 4]), (2, [4]), (3, [0, 1, 4]), (4, [0, 1, 4, 5]), (5, [1, 4, 5, 6]), (6, [1, 4, 5, 6, 7]), (7, [1, 4, 5, 6, 7]), (8, [1, 4, 5, 6, 7]), (9, [4, 5])], dp := look2 [(8, [[], [0], [], [], [2, 3], [2, 3, 4], [], [2, 3, 4, 5, 6], [2, 3, 4, 5, 6, 7], [0, 1, 2, 3, 4, 5, 6, 7, 8], [0, 1, 2, 3, 4, 5, 6, 7, 8, 9], [0, 1, 2, 3, 4, 5, 6, 7, 8, 9, 10]])] }
attribute [local push_cast] E17
set_option maxRecDepth 20000 in
set_option maxHeartbeats 1000000 in
theorem specDescribe (t : Str) (w : Int) (ht : t.size ≤ 100000000) : Does Tryz.prog 17 [.sc (.string t), .sc (.int .i64 w)] (.ag (lstC true (descL t w).1), []) := by
  refine does_of (E := E17) (rs := [.cell 4 27]) (lent := []) tOk rfl Tryz.func17 rfl (by decide) rfl rfl (Nat.le_of_ble_eq_true rfl) (Nat.le_of_ble_eq_true rfl) ?_
  obtain ⟨M, hM⟩ : ∃ M, M = descL t w := ⟨_, rfl⟩
  rw [← hM]
  unfold descL at hM
  (simp -dsimp (disch := first | omega | (simp only [List.length_cons, List.length_nil, List.length_map, List.length_append, List.length_take, List.length_drop, List.length_replicate, List.length_set, mkG_len] <;> omega) | fail) only [push_cast, if_pos, decide_eq_true, decide_eq_false, simprocAttr, -Nat.reduceSubDiff]) <;> (repeat (refine (aw_draw (by kernel_rfl)).2 ?_; simp -dsimp (disch := first | omega | (simp only [List.length_cons, List.length_nil, List.length_map, List.length_append, List.length_take, List.length_drop, List.length_replicate, List.length_set, mkG_len] <;> omega) | fail) only [push_cast, if_pos, decide_eq_true, decide_eq_false, simprocAttr, -Nat.reduceSubDiff]))
  refine callC (l1Width w) ?_
  cases hw : inB w 1 8 with
  | false =>
    rw [if_pos (.inr hw)] at hM
    subst hM
    (simp -dsimp (disch := first | omega | (simp only [emL, List.length_cons, List.length_nil, List.length_map, List.length_append, List.length_take, List.length_drop, List.length_replicate, List.length_set, mkG_len] <;> omega) | fail) only [push_cast, if_pos, decide_eq_true, decide_eq_false, emL, simprocAttr, -Nat.reduceSubDiff]) <;> (repeat (refine (aw_draw (by kernel_rfl)).2 ?_; simp -dsimp (disch := first | omega | (simp only [emL, List.length_cons, List.length_nil, List.length_map, List.length_append, List.length_take, List.length_drop, List.length_replicate, List.length_set, mkG_len] <;> omega) | fail) only [push_cast, if_pos, decide_eq_true, decide_eq_false, emL, simprocAttr, -Nat.reduceSubDiff]))
  | true =>
  by_cases hbig : 3000 < t.size
  · rw [if_pos (.inl hbig)] at hM
    subst hM
    (simp -dsimp (disch := first | omega | (simp only [hbig, emL, List.length_cons, List.length_nil, List.length_map, List.length_append, List.length_take, List.length_drop, List.length_replicate, List.length_set, mkG_len] <;> omega) | fail) only [push_cast, if_pos, decide_eq_true, decide_eq_false, hbig, emL, simprocAttr, -Nat.reduceSubDiff]) <;> (repeat (refine (aw_draw (by kernel_rfl)).2 ?_; simp -dsimp (disch := first | omega | (simp only [hbig, emL, List.length_cons, List.length_nil, List.length_map, List.length_append, List.length_take, List.length_drop, List.length_replicate, List.length_set, mkG_len] <;> omega) | fail) only [push_cast, if_pos, decide_eq_true, decide_eq_false, hbig, emL, simprocAttr, -Nat.reduceSubDiff]))
  rw [if_neg (by rintro (q | q); exact hbig q; rw [hw] at q; cases q)] at hM
  subst hM
  (simp -dsimp (disch := first | omega | (simp only [hbig, List.length_cons, List.length_nil, List.length_map, List.length_append, List.length_take, List.length_drop, List.length_replicate, List.length_set, mkG_len] <;> omega) | fail) only [push_cast, if_pos, decide_eq_true, decide_eq_false, hbig, simprocAttr, -Nat.reduceSubDiff]) <;> (repeat (refine (aw_draw (by kernel_rfl)).2 ?_; simp -dsimp (disch := first | omega | (simp only [hbig, List.length_cons, List.length_nil, List.length_map, List.length_append, List.length_take, List.length_drop, List.length_replicate, List.length_set, mkG_len] <;> omega) | fail) only [push_cast, if_pos, decide_eq_true, decide_eq_false, hbig, simprocAttr, -Nat.reduceSubDiff]))
  refine callC (specPieces t ht) ?_
  have hpl := pieces_len t
  have hps := fun p (hp : p ∈ piecesL t) => pieces_sz hp
  generalize piecesL t = P at *
  (simp -dsimp (disch := first | omega | (simp only [List.length_cons, List.length_nil, List.length_map, List.length_append, List.length_take, List.length_drop, List.length_replicate, List.length_set, mkG_len] <;> omega) | fail) only [push_cast, if_pos, decide_eq_true, decide_eq_false, simprocAttr, -Nat.reduceSubDiff]) <;> (repeat (refine (aw_draw (by kernel_rfl)).2 ?_; simp -dsimp (disch := first | omega | (simp only [List.length_cons, List.length_nil, List.length_map, List.length_append, List.length_take, List.length_drop, List.length_replicate, List.length_set, mkG_len] <;> omega) | fail) only [push_cast, if_pos, decide_eq_true, decide_eq_false, simprocAttr, -Nat.reduceSubDiff]))
  refine loop_ind (α := Nat) (fun i => i ≤ P.length)
    (fun i => ⟨[(1, .sc (.int .i64 w)), (4, .pt 1 0 0), (5, .pt 3 0 0), (6, .ow 5 0 P.length), (7, .sc (.int .i64 i))],
      [(1, .bx [.sc (.int .i64 0), .ow 2 0 0]), (2, .ar 1 0 []), (3, .bx [.sc (.int .i64 t.size), .ow 4 0 ((P.take i).map fun p => sumS p w).length]), (4, .ar 1 0 (((P.take i).map fun p => sumS p w).map strR)), (5, .ar 1 0 (P.map strR))], 6⟩) (fun i => P.length - i) 0 (Nat.zero_le _) ?_ ?_
  · simp -dsimp (disch := first | omega | (simp only [List.take_zero, List.map_nil, List.length_cons, List.length_nil, List.length_map, List.length_append, List.length_take, List.length_drop, List.length_replicate, List.length_set, mkG_len] <;> omega) | fail) only [push_cast, if_pos, decide_eq_true, decide_eq_false, List.take_zero, List.map_nil, simprocAttr, -Nat.reduceSubDiff]
  intro i hi ih
  have hil : ((P.take i).map fun p => sumS p w).length = i := by rw [List.length_map, List.length_take]; omega
  by_cases h : i < P.length
  · obtain ⟨x, hx⟩ := ex_get h
    have hxs := hps x (List.mem_of_getElem? hx)
    have hst : ((P.take (i + 1)).map fun p => sumS p w) = ((P.take i).map fun p => sumS p w) ++ [sumS x w] := by rw [take_step hx, List.map_append]; rfl
    (simp -dsimp (disch := first | omega | (simp only [hx, List.length_cons, List.length_nil, List.length_map, List.length_append, List.length_take, List.length_drop, List.length_replicate, List.length_set, mkG_len] <;> omega) | fail) only [push_cast, if_pos, decide_eq_true, decide_eq_false, hx, simprocAttr, -Nat.reduceSubDiff]) <;> (repeat (refine (aw_draw (by kernel_rfl)).2 ?_; simp -dsimp (disch := first | omega | (simp only [hx, List.length_cons, List.length_nil, List.length_map, List.length_append, List.length_take, List.length_drop, List.length_replicate, List.length_set, mkG_len] <;> omega) | fail) only [push_cast, if_pos, decide_eq_true, decide_eq_false, hx, simprocAttr, -Nat.reduceSubDiff]))
    refine callC (specSum x w (by omega)) ?_
    (simp -dsimp (disch := first | omega | (simp only [hx, List.length_cons, List.length_nil, List.length_map, List.length_append, List.length_take, List.length_drop, List.length_replicate, List.length_set, mkG_len] <;> omega) | fail) only [push_cast, if_pos, decide_eq_true, decide_eq_false, hx, simprocAttr, -Nat.reduceSubDiff]) <;> (repeat (refine (aw_draw (by kernel_rfl)).2 ?_; simp -dsimp (disch := first | omega | (simp only [hx, List.length_cons, List.length_nil, List.length_map, List.length_append, List.length_take, List.length_drop, List.length_replicate, List.length_set, mkG_len] <;> omega) | fail) only [push_cast, if_pos, decide_eq_true, decide_eq_false, hx, simprocAttr, -Nat.reduceSubDiff]))
    refine ih (i + 1) _ (by omega) h ?_
    rw [hst]
    simp -dsimp (disch := first | omega | (simp only [wr_id, List.map_append, List.length_append, List.length_cons, List.length_nil, List.map_cons, List.map_nil, List.length_cons, List.length_nil, List.length_map, List.length_append, List.length_take, List.length_drop, List.length_replicate, List.length_set, mkG_len] <;> omega) | fail) only [push_cast, if_pos, decide_eq_true, decide_eq_false, wr_id, List.map_append, List.length_append, List.length_cons, List.length_nil, List.map_cons, List.map_nil, simprocAttr, -Nat.reduceSubDiff]
  · have hi : i = P.length := by omega
    subst hi
    rw [List.take_length] at hil ⊢
    (simp -dsimp (disch := first | omega | (simp only [List.length_map, List.length_cons, List.length_nil, List.length_map, List.length_append, List.length_take, List.length_drop, List.length_replicate, List.length_set, mkG_len] <;> omega) | fail) only [push_cast, if_pos, decide_eq_true, decide_eq_false, List.length_map, simprocAttr, -Nat.reduceSubDiff]) <;> (repeat (refine (aw_draw (by kernel_rfl)).2 ?_; simp -dsimp (disch := first | omega | (simp only [List.length_map, List.length_cons, List.length_nil, List.length_map, List.length_append, List.length_take, List.length_drop, List.length_replicate, List.length_set, mkG_len] <;> omega) | fail) only [push_cast, if_pos, decide_eq_true, decide_eq_false, List.length_map, simprocAttr, -Nat.reduceSubDiff]))
theorem desc_len {t : Str} {w : Int} : (descL t w).1.S.length ≤ 3001 := by
  unfold descL
  split
  · simp [emL]
  · simp only [List.length_map]; exact pieces_len t
theorem formL_len {l : Lst} {w : Int} : (formL l w).size ≤ 7000 := by
  unfold formL
  split
  · rename_i h
    obtain ⟨_, w8, s0, s3, hn, hsz⟩ := okLs_up h
    have h1 := lines_len hsz w8
    have h2 := decD_len l.sz.toNat
    rw [stB_size]
    unfold formB
    have h3 : sizB.length = 5 := rfl
    rw [List.length_append, List.length_append, List.length_append]
    simp only [List.length_cons, List.length_nil]
    have h4 : (Lib.decDigits l.sz.toNat).length ≤ 619 := by
      have : (Lib.decDigits l.sz.toNat).length = Lib.nDigits l.sz.toNat := Lib.decDigits_length _
      have h5 : Lib.nDigits l.sz.toNat ≤ 5 := by
        apply Classical.byContradiction
        intro hc
        have hq : ∀ k u : Nat, u < 10 ^ (k + 1) → Lib.nDigits u ≤ k + 1 := by
          intro k
          induction k with
          | zero => intro u hu; rw [Lib.nDigits_small (by simpa using hu)]; exact Nat.le_refl _
          | succ k ih =>
            intro u hu
            by_cases h : u < 10
            · rw [Lib.nDigits_small h]; omega
            · rw [Lib.nDigits_big h]
              have := ih (u / 10) (by rw [Nat.pow_succ] at hu; omega)
              omega
        have := hq 4 l.sz.toNat (by omega)
        omega
      omega
    omega
  · exact Nat.zero_le _
end Go.Proofs.YtgkncgiglmdnaaaGreatDoor.Mx

/- Draws, pure. -/
namespace Go.Proofs.YtgkncgiglmdnaaaGreatDoor.Mx
set_option linter.all false
open Go Go.RowKit
/-- the bytes of a code -/
def okCode (c : List Int) : Prop := c.length ≤ 2000 ∧ ∀ x ∈ c, 0 ≤ x ∧ x ≤ 255
def mixK (c : List Int) (k : Int) : Int := c.getD (k.toNat % c.length) 0 * 131 + c.getD ((k.toNat * 7 + 3) % c.length) 0 * 1117 + k * 29 + k / c.length * 53
def xorK (x : Int) : Int := wr .i64 (BitVec.ofInt 64 x ^^^ BitVec.ofInt 64 (x / 64)).toNat
/-- the p-th draw of a number below n -/
def pickF (c : List Int) (p n : Int) : Int := if n < 1 ∨ c = [] then 0 else if p < c.length then (c.getD p.toNat 0) % n else xorK (mixK c p) % n
theorem code_get {c : List Int} (h : okCode c) (i : Nat) : 0 ≤ c.getD i 0 ∧ c.getD i 0 ≤ 255 := by
  rw [List.getD_eq_getElem?_getD]
  cases e : c[i]? with
  | none => simp
  | some x => exact h.2 x (List.mem_of_getElem? e)
theorem xorK_nn {x : Int} (h0 : 0 ≤ x) (h1 : x < 4611686018427387904) : 0 ≤ xorK x ∧ xorK x < 4611686018427387904 := by
  unfold xorK
  obtain ⟨n, rfl⟩ := Int.eq_ofNat_of_zero_le h0
  have e : (BitVec.ofInt 64 (n : Int) ^^^ BitVec.ofInt 64 ((n : Int) / 64)).toNat = n ^^^ (n / 64) := by
    rw [BitVec.toNat_xor]
    have h2 : ((n : Int) / 64) = ((n / 64 : Nat) : Int) := by simp
    rw [h2, BitVec.ofInt_natCast, BitVec.ofInt_natCast, BitVec.toNat_ofNat, BitVec.toNat_ofNat, Nat.mod_eq_of_lt (by omega), Nat.mod_eq_of_lt (by omega)]
  rw [e]
  have hl : n ^^^ (n / 64) < 2 ^ 62 := Nat.xor_lt_two_pow (by omega) (by omega)
  have : wr .i64 ((n ^^^ (n / 64) : Nat) : Int) = ((n ^^^ (n / 64) : Nat) : Int) := by
    rw [wr_id (by omega) (by omega)]
  omega
theorem pickF_nn {c : List Int} (h : okCode c) (p n : Int) (hp0 : 0 ≤ p) (hp : p ≤ 1000000) : 0 ≤ pickF c p n ∧ (1 ≤ n → pickF c p n < n) := by
  unfold pickF
  split
  · exact ⟨by omega, by omega⟩
  rename_i h1
  have hn : 1 ≤ n := by omega
  have : ∀ x : Int, 0 ≤ x % n ∧ x % n < n := fun x => ⟨Int.emod_nonneg _ (by omega), Int.emod_lt_of_pos _ (by omega)⟩
  split
  · exact ⟨(this _).1, fun _ => (this _).2⟩
  · exact ⟨(this _).1, fun _ => (this _).2⟩
end Go.Proofs.YtgkncgiglmdnaaaGreatDoor.Mx

/- Stores: valid, copied. -/
namespace Go.Proofs.YtgkncgiglmdnaaaGreatDoor.Mx
set_option linter.all false
open Go Go.RowKit Go.Proofs
set_option linter.unusedSimpArgs false
def E144 : Env := { T := T0, kp := look [(0, [0, 1]), (1, [0, 1]), (2, [0, 1, 7, 8, 9]), (3, [0, 1, 7, 8, 9]), (4, [0, 1, 5, 6, 7, 8, 9]), (5, []), (6, [0, 1, 7, 8, 9]), (7, [])] }
attribute [local push_cast] E144
theorem ascending (l : List Str) (w : Int) (hl : l.length ≤ 2097152) : Does Tryz.prog 144 [.sl false 1 (l.map strR), .sc (.int .i64 w)] (.sc (.bool (ascF w none l)), []) := by
  refine does_of (E := E144) (rs := [.tmp 4]) (lent := []) tOk rfl Tryz.func144 rfl (by decide) rfl rfl (Nat.le_of_ble_eq_true rfl) (Nat.le_of_ble_eq_true rfl) ?_
  generalize hM : ascF w none l = M
  simp -dsimp (disch := first | omega | (simp only [List.length_cons, List.length_nil, List.length_map, List.length_append, List.length_take, List.length_drop, List.length_replicate, List.length_set, mkG_len] <;> omega) | fail) only [push_cast, if_pos, decide_eq_true, decide_eq_false, simprocAttr, -Nat.reduceSubDiff]
  refine loop_ind (α := Nat) (fun i => i ≤ l.length ∧ ascF w (bif i == 0 then none else l[i - 1]?) (l.drop i) = M) (fun i => ⟨[(0, .sl false 1 (l.map strR)), (1, .sc (.int .i64 w)), (7, .sl false 1 (l.map strR)), (8, .sc (.int .i64 l.length)), (9, .sc (.int .i64 i))], [], 1⟩) (fun i => l.length - i) 0 ⟨Nat.zero_le _, hM⟩ ?_ ?_
  · simp -dsimp (disch := first | omega | (simp only [List.length_cons, List.length_nil, List.length_map, List.length_append, List.length_take, List.length_drop, List.length_replicate, List.length_set, mkG_len] <;> omega) | fail) only [push_cast, if_pos, decide_eq_true, decide_eq_false, simprocAttr, -Nat.reduceSubDiff]
  rintro i ⟨hi, hy⟩ ih
  by_cases h : i < l.length
  · obtain ⟨s, hx⟩ := ex_get h
    rw [drop_step hx, ascF] at hy
    have hs : ∀ P, (bif i + 1 == 0 then none else l[i + 1 - 1]?) = P → P = some s := fun P e => by rw [← e, show (i + 1 == 0) = false by simp, cond_false, Nat.add_sub_cancel, hx]
    by_cases e1 : (s.size : Int) = w
    rotate_left
    · rw [show decide ((s.size : Int) = w) = false by simp [e1], Bool.false_and, Bool.false_and] at hy
      simp -dsimp (disch := first | omega | (simp only [hx, e1, ← hy, List.length_cons, List.length_nil, List.length_map, List.length_append, List.length_take, List.length_drop, List.length_replicate, List.length_set, mkG_len] <;> omega) | fail) only [push_cast, if_pos, decide_eq_true, decide_eq_false, hx, e1, ← hy, simprocAttr, -Nat.reduceSubDiff]
    rw [show decide ((s.size : Int) = w) = true by simp [e1], Bool.true_and] at hy
    by_cases e2 : i = 0
    · subst e2
      rw [show aft (bif 0 == 0 then none else l[0 - 1]?) s = true from rfl, Bool.true_and] at hy
      simp -dsimp (disch := first | omega | (simp only [hx, e1, List.length_cons, List.length_nil, List.length_map, List.length_append, List.length_take, List.length_drop, List.length_replicate, List.length_set, mkG_len] <;> omega) | fail) only [push_cast, if_pos, decide_eq_true, decide_eq_false, hx, e1, simprocAttr, -Nat.reduceSubDiff]
      refine ih 1 _ (by omega) ⟨h, by rw [hs _ rfl]; exact hy⟩ ?_
      simp -dsimp (disch := first | omega | (simp only [wr_id, List.length_cons, List.length_nil, List.length_map, List.length_append, List.length_take, List.length_drop, List.length_replicate, List.length_set, mkG_len] <;> omega) | fail) only [push_cast, if_pos, decide_eq_true, decide_eq_false, wr_id, simprocAttr, -Nat.reduceSubDiff]
    · obtain ⟨q, hq⟩ := ex_get (show i - 1 < l.length by omega)
      rw [show (bif i == 0 then none else l[i - 1]?) = some q by rw [show (i == 0) = false by simp [e2]]; exact hq, show aft (some q) s = lts q s from rfl] at hy
      have e3 : ((i : Int) - 1).toNat = i - 1 := by omega
      cases e4 : lts q s with
      | false =>
        rw [e4, Bool.false_and] at hy
        simp -dsimp (disch := first | omega | (simp only [hx, hq, e1, e3, wr_id, e4, ← hy, List.length_cons, List.length_nil, List.length_map, List.length_append, List.length_take, List.length_drop, List.length_replicate, List.length_set, mkG_len] <;> omega) | fail) only [push_cast, if_pos, decide_eq_true, decide_eq_false, hx, hq, e1, e3, wr_id, e4, ← hy, simprocAttr, -Nat.reduceSubDiff]
      | true =>
        rw [e4, Bool.true_and] at hy
        simp -dsimp (disch := first | omega | (simp only [hx, hq, e1, e3, wr_id, e4, List.length_cons, List.length_nil, List.length_map, List.length_append, List.length_take, List.length_drop, List.length_replicate, List.length_set, mkG_len] <;> omega) | fail) only [push_cast, if_pos, decide_eq_true, decide_eq_false, hx, hq, e1, e3, wr_id, e4, simprocAttr, -Nat.reduceSubDiff]
        refine ih (i + 1) _ (by omega) ⟨h, by rw [hs _ rfl]; exact hy⟩ ?_
        simp -dsimp (disch := first | omega | (simp only [wr_id, List.length_cons, List.length_nil, List.length_map, List.length_append, List.length_take, List.length_drop, List.length_replicate, List.length_set, mkG_len] <;> omega) | fail) only [push_cast, if_pos, decide_eq_true, decide_eq_false, wr_id, simprocAttr, -Nat.reduceSubDiff]
  · rw [List.drop_eq_nil_of_le (by omega), ascF] at hy
    simp -dsimp (disch := first | omega | (simp only [← hy, List.length_cons, List.length_nil, List.length_map, List.length_append, List.length_take, List.length_drop, List.length_replicate, List.length_set, mkG_len] <;> omega) | fail) only [push_cast, if_pos, decide_eq_true, decide_eq_false, ← hy, simprocAttr, -Nat.reduceSubDiff]
end Go.Proofs.YtgkncgiglmdnaaaGreatDoor.Mx

/- The draws of the reference. -/
namespace Go.Proofs.YtgkncgiglmdnaaaGreatDoor.Mx
set_option linter.all false
open Go Go.RowKit Go.Proofs
set_option linter.unusedSimpArgs false
@[push_cast] theorem rd_num (l : List Int) : rdR (l.map numR) = l.map numR := by simp [rdR, numR, rdC]
/-- a reader: code and place -/
@[push_cast] def rdC1 (c : List Int) (p : Int) : Row := [.sl false 1 (c.map numR), .sc (.int .i64 p)]
def E68 : Env := { T := T0, kp := look [(0, [0]), (1, [0]), (2, [0]), (3, [0])] }
attribute [local push_cast] E68
theorem l1Open (c : List Int) (hc : c.length ≤ 1048576) : Does Tryz.prog 68 [.sl false 1 (c.map numR)] (.pb true (rdC1 (c.take 2000) 0), []) := by
  refine does_of (E := E68) (rs := [.tmp 2]) (lent := []) tOk rfl Tryz.func68 rfl (by decide) rfl rfl (Nat.le_of_ble_eq_true rfl) (Nat.le_of_ble_eq_true rfl) ?_
  by_cases h : 2000 < c.length
  · have hne : (c.map numR).isEmpty = false := by cases c <;> simp at h ⊢
    (simp -dsimp (disch := first | omega | (simp only [h, hne, seg, List.drop_zero, ← List.map_take, List.length_cons, List.length_nil, List.length_map, List.length_append, List.length_take, List.length_drop, List.length_replicate, List.length_set, mkG_len] <;> omega) | fail) only [push_cast, if_pos, decide_eq_true, decide_eq_false, h, hne, seg, List.drop_zero, ← List.map_take, simprocAttr, -Nat.reduceSubDiff]) <;> (repeat (refine (aw_draw (by kernel_rfl)).2 ?_; simp -dsimp (disch := first | omega | (simp only [h, hne, seg, List.drop_zero, ← List.map_take, List.length_cons, List.length_nil, List.length_map, List.length_append, List.length_take, List.length_drop, List.length_replicate, List.length_set, mkG_len] <;> omega) | fail) only [push_cast, if_pos, decide_eq_true, decide_eq_false, h, hne, seg, List.drop_zero, ← List.map_take, simprocAttr, -Nat.reduceSubDiff]))
  · rw [List.take_of_length_le (by omega)]
    (simp -dsimp (disch := first | omega | (simp only [h, List.length_cons, List.length_nil, List.length_map, List.length_append, List.length_take, List.length_drop, List.length_replicate, List.length_set, mkG_len] <;> omega) | fail) only [push_cast, if_pos, decide_eq_true, decide_eq_false, h, simprocAttr, -Nat.reduceSubDiff]) <;> (repeat (refine (aw_draw (by kernel_rfl)).2 ?_; simp -dsimp (disch := first | omega | (simp only [h, List.length_cons, List.length_nil, List.length_map, List.length_append, List.length_take, List.length_drop, List.length_replicate, List.length_set, mkG_len] <;> omega) | fail) only [push_cast, if_pos, decide_eq_true, decide_eq_false, h, simprocAttr, -Nat.reduceSubDiff]))
def E70 : Env := { T := T0, kp := look [(0, [0, 1]), (1, [0, 1]), (2, [0, 1]), (3, [0]), (4, [0, 1]), (5, [0, 1, 5]), (6, [0, 1, 5]), (7, [0, 1, 5]), (8, [0, 1, 6]), (9, [0, 1, 6])], dp := look2 [(7, [[], [0], [0, 1], [0, 1, 2], [], [], [5], [5, 6], [5, 6, 7], [5, 6, 7, 8], [4, 5, 6, 7, 8, 9], [0, 1, 2, 3, 4, 5, 6, 7, 8, 9, 10], [0, 1, 2, 3, 4, 5, 6, 7, 8, 9, 10, 11], [0, 1, 2, 3, 4, 5, 6, 7, 8, 9, 10, 11, 12], [0, 1, 2, 3, 4, 5, 6, 7, 8, 9, 10, 11, 12, 13], [], [15], [15, 16], [15, 16, 17], [], [19], [19, 20], [], [22], [22, 23], [22, 23, 24], [22, 23, 24, 25], [19, 20, 21, 22, 23, 24, 25, 26], [15, 16, 17, 18, 19, 20, 21, 22, 23, 24, 25, 26, 27], [15, 16, 17, 18, 19, 20, 21, 22, 23, 24, 25, 26, 27, 28], [15, 16, 17, 18, 19, 20, 21, 22, 23, 24, 25, 26, 27, 28, 29], [15, 16, 17, 18, 19, 20, 21, 22, 23, 24, 25, 26, 27, 28, 29, 30], [0, 1, 2, 3, 4, 5, 6, 7, 8, 9, 10, 11, 12, 13, 14, 15, 16, 17, 18, 19, 20, 21, 22, 23, 24, 25, 26, 27, 28, 29, 30, 31], [], [33], [0, 1, 2, 3, 4, 5, 6, 7, 8, 9, 10, 11, 12, 13, 14, 15, 16, 17, 18, 19, 20, 21, 22, 23, 24, 25, 26, 27, 28, 29, 30, 31, 32, 33, 34], [], [], [37], [37, 38], [37, 38, 39], [37, 38, 39, 40], [36, 37, 38, 39, 40, 41], [36, 37, 38, 39, 40, 41, 42], [0, 1, 2, 3, 4, 5, 6, 7, 8, 9, 10, 11, 12, 13, 14, 15, 16, 17, 18, 19, 20, 21, 22, 23, 24, 25, 26, 27, 28, 29, 30, 31, 32, 33, 34, 35, 36, 37, 38, 39, 40, 41, 42, 43], [0, 1, 2, 3, 4, 5, 6, 7, 8, 9, 10, 11, 12, 13, 14, 15, 16, 17, 18, 19, 20, 21, 22, 23, 24, 25, 26, 27, 28, 29, 30, 31, 32, 33, 34, 35, 36, 37, 38, 39, 40, 41, 42, 43, 44]])] }
attribute [local push_cast] E70
set_option maxRecDepth 20000 in
set_option maxHeartbeats 4000000 in
theorem pick (c : List Int) (p n : Int) (hc : okCode c) (hp : 0 ≤ p) (hp2 : p ≤ 1000000) (hn : n ≤ 1000000) : Does Tryz.prog 70 [.pb true (rdC1 c p), .sc (.int .i64 n)] (.sc (.int .i64 (pickF c p n)), [some (.pb true (rdC1 c (p + 1)))]) := by
  refine does_of (E := E70) (rs := [.tmp 4]) (lent := [true]) tOk rfl Tryz.func70 rfl (by decide) rfl rfl (Nat.le_of_ble_eq_true rfl) (Nat.le_of_ble_eq_true rfl) ?_
  obtain ⟨M, hM⟩ : ∃ M, M = pickF c p n := ⟨_, rfl⟩
  rw [← hM]
  unfold pickF at hM
  by_cases h1 : n < 1
  · rw [if_pos (.inl h1)] at hM
    subst hM
    (simp -dsimp (disch := first | omega | (simp only [h1, wr_id, List.length_cons, List.length_nil, List.length_map, List.length_append, List.length_take, List.length_drop, List.length_replicate, List.length_set, mkG_len] <;> omega) | fail) only [push_cast, if_pos, decide_eq_true, decide_eq_false, h1, wr_id, simprocAttr, -Nat.reduceSubDiff]) <;> (repeat (refine (aw_draw (by kernel_rfl)).2 ?_; simp -dsimp (disch := first | omega | (simp only [h1, wr_id, List.length_cons, List.length_nil, List.length_map, List.length_append, List.length_take, List.length_drop, List.length_replicate, List.length_set, mkG_len] <;> omega) | fail) only [push_cast, if_pos, decide_eq_true, decide_eq_false, h1, wr_id, simprocAttr, -Nat.reduceSubDiff]))
  by_cases h2 : c.length = 0
  · rw [if_pos (.inr (List.length_eq_zero_iff.1 h2))] at hM
    subst hM
    (simp -dsimp (disch := first | omega | (simp only [h1, h2, wr_id, List.length_cons, List.length_nil, List.length_map, List.length_append, List.length_take, List.length_drop, List.length_replicate, List.length_set, mkG_len] <;> omega) | fail) only [push_cast, if_pos, decide_eq_true, decide_eq_false, h1, h2, wr_id, simprocAttr, -Nat.reduceSubDiff]) <;> (repeat (refine (aw_draw (by kernel_rfl)).2 ?_; simp -dsimp (disch := first | omega | (simp only [h1, h2, wr_id, List.length_cons, List.length_nil, List.length_map, List.length_append, List.length_take, List.length_drop, List.length_replicate, List.length_set, mkG_len] <;> omega) | fail) only [push_cast, if_pos, decide_eq_true, decide_eq_false, h1, h2, wr_id, simprocAttr, -Nat.reduceSubDiff]))
  rw [if_neg (by rintro (h | h); exact h1 h; rw [h] at h2; exact h2 rfl)] at hM
  have hl := hc.1
  have hk : p + 1 - 1 = p := by omega
  have hlp : 0 < (c.length : Int) := by omega
  have nn : ∀ i, 0 ≤ c.getD i 0 ∧ c.getD i 0 ≤ 255 := code_get hc
  by_cases h3 : p < c.length
  · rw [if_pos h3] at hM
    obtain ⟨x, hx⟩ := ex_get (show p.toNat < c.length by omega)
    have hb := nn p.toNat
    rw [List.getD_eq_getElem?_getD, hx, Option.getD_some] at hM hb
    have ht : x.tmod n = x % n := Int.tmod_eq_emod_of_nonneg hb.1
    have hnx : numR x = [.sc (.int .u8 x)] := rfl
    (simp -dsimp (disch := first | omega | (simp only [h1, h2, h3, hx, wr_id, hk, ht, hnx, List.length_cons, List.length_nil, List.length_map, List.length_append, List.length_take, List.length_drop, List.length_replicate, List.length_set, mkG_len] <;> omega) | fail) only [push_cast, if_pos, decide_eq_true, decide_eq_false, h1, h2, h3, hx, wr_id, hk, ht, hnx, simprocAttr, -Nat.reduceSubDiff]) <;> (repeat (refine (aw_draw (by kernel_rfl)).2 ?_; simp -dsimp (disch := first | omega | (simp only [h1, h2, h3, hx, wr_id, hk, ht, hnx, List.length_cons, List.length_nil, List.length_map, List.length_append, List.length_take, List.length_drop, List.length_replicate, List.length_set, mkG_len] <;> omega) | fail) only [push_cast, if_pos, decide_eq_true, decide_eq_false, h1, h2, h3, hx, wr_id, hk, ht, hnx, simprocAttr, -Nat.reduceSubDiff]))
    rw [hM]
  rw [if_neg h3] at hM
  have e1 : p.tmod (c.length : Int) = ((p.toNat % c.length : Nat) : Int) := by
    rw [Int.tmod_eq_emod_of_nonneg hp]
    have hp' : p = ((p.toNat : Nat) : Int) := by omega
    conv => lhs; rw [hp']
    rfl
  have e2 : (p * 7 + 3).tmod (c.length : Int) = (((p.toNat * 7 + 3) % c.length : Nat) : Int) := by
    rw [Int.tmod_eq_emod_of_nonneg (by omega), show p * 7 + 3 = ((p.toNat * 7 + 3 : Nat) : Int) by omega]; rfl
  have e3 : p.tdiv (c.length : Int) = p / c.length := Int.tdiv_eq_ediv_of_nonneg hp
  obtain ⟨x, hx⟩ := ex_get (show p.toNat % c.length < c.length from Nat.mod_lt _ (by omega))
  obtain ⟨y, hy⟩ := ex_get (show (p.toNat * 7 + 3) % c.length < c.length from Nat.mod_lt _ (by omega))
  have hbx := nn (p.toNat % c.length)
  have hby := nn ((p.toNat * 7 + 3) % c.length)
  unfold mixK at hM
  rw [List.getD_eq_getElem?_getD, hx, Option.getD_some] at hM hbx
  rw [List.getD_eq_getElem?_getD, hy, Option.getD_some] at hM hby
  have d0 : 0 ≤ p / (c.length : Int) := Int.ediv_nonneg hp (by omega)
  have d1 : p / (c.length : Int) ≤ p := Int.ediv_le_self _ hp
  generalize p / (c.length : Int) = d at *
  generalize p.toNat % c.length = i at *
  generalize (p.toNat * 7 + 3) % c.length = j at *
  obtain ⟨X, hX⟩ : ∃ X, X = x * 131 + y * 1117 + p * 29 + d * 53 := ⟨_, rfl⟩
  have X0 : 0 ≤ X := by omega
  have X1 : X < 4611686018427387904 := by omega
  have hq : X.tdiv 64 = X / 64 := Int.tdiv_eq_ediv_of_nonneg X0
  have hxo : wr .i64 (BitVec.ofInt IntKind.i64.bits X ^^^ BitVec.ofInt IntKind.i64.bits (X / 64)).toNat = xorK X := rfl
  obtain ⟨z0, z1⟩ := xorK_nn X0 X1
  have ht : (xorK X).tmod n = xorK X % n := Int.tmod_eq_emod_of_nonneg z0
  rw [← hX] at hM
  have hnx : numR x = [.sc (.int .u8 x)] := rfl
  have hny : numR y = [.sc (.int .u8 y)] := rfl
  (simp -dsimp (disch := first | omega | (simp only [h1, h2, h3, wr_id, hk, hnx, hny, e1, e2, e3, hx, hy, Int.toNat_natCast, ← hX, hq, hxo, ht, List.length_cons, List.length_nil, List.length_map, List.length_append, List.length_take, List.length_drop, List.length_replicate, List.length_set, mkG_len] <;> omega) | fail) only [push_cast, if_pos, decide_eq_true, decide_eq_false, h1, h2, h3, wr_id, hk, hnx, hny, e1, e2, e3, hx, hy, Int.toNat_natCast, ← hX, hq, hxo, ht, simprocAttr, -Nat.reduceSubDiff]) <;> (repeat (refine (aw_draw (by kernel_rfl)).2 ?_; simp -dsimp (disch := first | omega | (simp only [h1, h2, h3, wr_id, hk, hnx, hny, e1, e2, e3, hx, hy, Int.toNat_natCast, ← hX, hq, hxo, ht, List.length_cons, List.length_nil, List.length_map, List.length_append, List.length_take, List.length_drop, List.length_replicate, List.length_set, mkG_len] <;> omega) | fail) only [push_cast, if_pos, decide_eq_true, decide_eq_false, h1, h2, h3, wr_id, hk, hnx, hny, e1, e2, e3, hx, hy, Int.toNat_natCast, ← hX, hq, hxo, ht, simprocAttr, -Nat.reduceSubDiff]))
  rw [hM]
end Go.Proofs.YtgkncgiglmdnaaaGreatDoor.Mx

/- Runs whose answer is only known to be of a kind. -/
namespace Go.Proofs.YtgkncgiglmdnaaaGreatDoor.Mx
set_option linter.all false
open Go Go.RowKit
/-- there is an answer of the kind, for which this holds -/
def Sm (Q K : Ans → Prop) : Prop := ∃ r, Q r ∧ K r
theorem Sm.imp {Q K K' : Ans → Prop} (h : ∀ r, K r → K' r) : Sm Q K → Sm Q K' := fun ⟨r, a, b⟩ => ⟨r, a, h r b⟩
theorem ex_call {P : Program} {h : FuncId} {Q : Ans → Prop} {F : Ans → Ans → Prop} {l : List AV} {r' : Ans} (hm : Does P h l r') (hf : Sm Q fun r => F r r') : Sm Q fun r => AfterC P h (fun a => F r a) (some l) :=
  hf.imp fun _ k => ⟨l, r', rfl, hm.m, k⟩
theorem ex_some {P : Program} {h : FuncId} {Q Q' : Ans → Prop} {F : Ans → Ans → Prop} {l : List AV} (hm : ∃ r', Q' r' ∧ Does P h l r') (hf : ∀ r', Q' r' → Sm Q fun r => F r r') : Sm Q fun r => AfterC P h (fun a => F r a) (some l) := by
  obtain ⟨r', hq, hd⟩ := hm
  exact ex_call hd (hf r' hq)
/-- a callee whose answer is only known to be of a kind -/
theorem some_call {P : Program} {h : FuncId} {Q' : Ans → Prop} {f : Ans → Prop} {l : List AV} (hm : ∃ r', Q' r' ∧ Does P h l r') (hf : ∀ r', Q' r' → f r') : AfterC P h f (some l) := by
  obtain ⟨r', hq, hd⟩ := hm
  exact callC hd (hf r' hq)
section
variable {P : Program} {E : Env}
theorem ex_loop {Qa : Ans → Prop} {Q : Ans → Po} {s : St} {c : Code} {α : Type} (I : α → Prop) (st : α → St) (μ : α → Nat) (x0 : α) (hx : I x0) (h0 : norm (E.kp (headId c)) s = st x0)
    (step : ∀ x, I x → (∀ y s, μ y < μ x → I y → norm (E.kp (headId c)) s = st y → Sm Qa fun r => aw P E (.loop c) (Q r) s) → Sm Qa fun r => aw P E c (Po.then (aw P E (.loop c) (Q r)) (Q r)) (st x)) : Sm Qa fun r => aw P E (.loop c) (Q r) s := by
  have key : ∀ n x s, μ x = n → I x → norm (E.kp (headId c)) s = st x → Sm Qa fun r => aw P E (.loop c) (Q r) s := by
    intro n
    induction n using Nat.strongRecOn with
    | _ n ih =>
      intro x s hn hI hs
      refine (step x hI fun y s hlt hIy hsy => ih (μ y) (hn ▸ hlt) y s rfl hIy hsy).imp fun r k => ?_
      rw [aw_loop, hs]; exact k
  exact key _ x0 s rfl hx h0
theorem does_ex (hT : TOk P E.T) (hm : P.follows .mixedOrders = true) {f : FuncId} {fn : Func} {c : Code} {rs : List ResultVar} {lent : List Bool} {avs : List AV} {Q : Ans → Prop} (hf : P.funcs[f]? = some fn) (hb : fn.body = some c) (hn : (fn.name == "runtime.NumGoroutine") = false)
    (hr : fn.results = rs.toArray) (hd : dstOk lent.length fn.ntmps c = true) (hN : avs.length ≤ fn.ntmps) (hl : lent.length ≤ avs.length) (h : Sm Q fun r => aw P E c (Fin E.T rs lent r) (enter avs)) : ∃ r, Q r ∧ Does P f avs r := by
  obtain ⟨r, hq, k⟩ := h
  exact ⟨r, hq, does_of hT hm hf hb hn hr hd hN hl k⟩
theorem ex_draw {Qa : Ans → Prop} {id : Nat} {all : Array Oper} {Q : Ans → Po} {s : St} (h : okD all.toList (E.dp id) = true) (k : Sm Qa fun r => drW P E id (E.dp id) all.toList (Q r .normal) 0 all.toList [] (keep (E.kp id) (frz (E.fz id) s))) : Sm Qa fun r => aw P E (.region id all true) (Q r) s :=
  k.imp fun _ k => (aw_draw h).2 k
end
theorem ex_fin {Q : Ans → Prop} {a : Ans} (h : Q a) : Sm Q fun r => some a = some r := ⟨a, h, rfl⟩
end Go.Proofs.YtgkncgiglmdnaaaGreatDoor.Mx

/- Draws of things. -/
namespace Go.Proofs.YtgkncgiglmdnaaaGreatDoor.Mx
set_option linter.all false
open Go Go.RowKit Go.Proofs
set_option linter.unusedSimpArgs false
theorem half_sz (s n : Nat) : n % 2 * s + (s + s) * (n / 2) = s * n := by
  have e : n = 2 * (n / 2) + n % 2 := by omega
  generalize n / 2 = q at *
  generalize n % 2 = r at *
  subst e
  rw [Nat.mul_add, Nat.add_mul, Nat.mul_comm r s, Nat.mul_comm 2 q, ← Nat.mul_assoc, Nat.mul_two]
  omega
theorem half_odd {s n o K : Nat} (h : o + s * n ≤ K) (e : n % 2 = 1) : o + s + (s + s) * (n / 2) ≤ K := by
  have := half_sz s n
  rw [e, Nat.one_mul] at this; omega
theorem half_even {s n o K : Nat} (h : o + s * n ≤ K) (e : ¬ n % 2 = 1) : o + (s + s) * (n / 2) ≤ K := by
  have := half_sz s n
  have e : n % 2 = 0 := by omega
  rw [e, Nat.zero_mul] at this; omega
theorem le_prod {s n o K : Nat} (h : o + s * n ≤ K) (hn : 0 < n) : o + s ≤ K := by
  have := Nat.le_mul_of_pos_right s hn
  omega
theorem tmod2 (n : Nat) : (n : Int).tmod 2 = ((n % 2 : Nat) : Int) := rfl
theorem tdiv2 (n : Nat) : (n : Int).tdiv 2 = ((n / 2 : Nat) : Int) := rfl
def manR (K : Nat) (r : Ans) : Prop := ∃ t : Str, r = (.sc (.string t), []) ∧ t.size ≤ K
def E135 : Env := { T := T0, kp := look [(0, [0, 1]), (1, [0, 1]), (2, [0, 1, 5]), (3, [0, 1, 5]), (4, [0, 1, 5]), (5, [0, 1, 5]), (6, [0, 1, 5]), (7, [5])] }
attribute [local push_cast] E135
set_option maxHeartbeats 1000000 in
theorem l1Many (s : Str) (n K : Nat) (hn : n ≤ 1000000) (hK : s.size * n ≤ K) (hK2 : K ≤ 1000000) (hs : s.size ≤ 2000000) : ∃ r, manR K r ∧ Does Tryz.prog 135 [.sc (.string s), .sc (.int .i64 n)] r := by
  refine does_ex (E := E135) (rs := [.tmp 4]) (lent := []) tOk rfl Tryz.func135 rfl (by decide) rfl rfl (Nat.le_of_ble_eq_true rfl) (Nat.le_of_ble_eq_true rfl) ?_
  (simp -dsimp (disch := first | omega | (simp only [List.length_cons, List.length_nil, List.length_map, List.length_append, List.length_take, List.length_drop, List.length_replicate, List.length_set, mkG_len] <;> omega) | fail) only [push_cast, if_pos, decide_eq_true, decide_eq_false, simprocAttr, -Nat.reduceSubDiff]) <;> (repeat (refine ex_draw (by kernel_rfl) ?_; simp -dsimp (disch := first | omega | (simp only [List.length_cons, List.length_nil, List.length_map, List.length_append, List.length_take, List.length_drop, List.length_replicate, List.length_set, mkG_len] <;> omega) | fail) only [push_cast, if_pos, decide_eq_true, decide_eq_false, simprocAttr, -Nat.reduceSubDiff]))
  refine ex_loop (α := Str × Nat × Str) (fun q => q.2.2.size + q.1.size * q.2.1 ≤ K ∧ q.1.size ≤ 2000000 ∧ q.2.1 ≤ 1000000)
    (fun q => ⟨[(0, .sc (.string q.1)), (1, .sc (.int .i64 q.2.1)), (5, .sc (.string q.2.2))], [], 1⟩)
    (fun q => q.2.1) (s, n, ⟨#[]⟩) ⟨by show 0 + s.size * n ≤ K; omega, hs, hn⟩ ?_ ?_
  · simp -dsimp (disch := first | omega | (simp only [List.length_cons, List.length_nil, List.length_map, List.length_append, List.length_take, List.length_drop, List.length_replicate, List.length_set, mkG_len] <;> omega) | fail) only [push_cast, if_pos, decide_eq_true, decide_eq_false, simprocAttr, -Nat.reduceSubDiff]
  rintro ⟨s, n, o⟩ ⟨g1, g2, g3⟩ ih
  replace g1 : o.size + s.size * n ≤ K := g1
  replace g2 : s.size ≤ 2000000 := g2
  replace g3 : n ≤ 1000000 := g3
  have m2 := tmod2 n
  have d2 := tdiv2 n
  by_cases h : 0 < n
  · have hle := le_prod g1 h
    by_cases e : n % 2 = 1
    · have i1 := half_odd g1 e
      rw [e] at m2
      have hsz : (s ++ s).size = s.size + s.size := ByteArray.size_append
      have hsz2 : (o ++ s).size = o.size + s.size := ByteArray.size_append
      (simp -dsimp (disch := first | omega | (simp only [h, m2, d2, List.length_cons, List.length_nil, List.length_map, List.length_append, List.length_take, List.length_drop, List.length_replicate, List.length_set, mkG_len] <;> omega) | fail) only [push_cast, if_pos, decide_eq_true, decide_eq_false, h, m2, d2, simprocAttr, -Nat.reduceSubDiff]) <;> (repeat (refine ex_draw (by kernel_rfl) ?_; simp -dsimp (disch := first | omega | (simp only [h, m2, d2, List.length_cons, List.length_nil, List.length_map, List.length_append, List.length_take, List.length_drop, List.length_replicate, List.length_set, mkG_len] <;> omega) | fail) only [push_cast, if_pos, decide_eq_true, decide_eq_false, h, m2, d2, simprocAttr, -Nat.reduceSubDiff]))
      refine ih (s ++ s, n / 2, o ++ s) _ (by show n / 2 < n; omega) ⟨by show (o ++ s).size + (s ++ s).size * (n / 2) ≤ K; rw [hsz, hsz2]; exact i1, by show (s ++ s).size ≤ 2000000; omega, by show n / 2 ≤ 1000000; omega⟩ ?_
      simp -dsimp (disch := first | omega | (simp only [wr_id, List.length_cons, List.length_nil, List.length_map, List.length_append, List.length_take, List.length_drop, List.length_replicate, List.length_set, mkG_len] <;> omega) | fail) only [push_cast, if_pos, decide_eq_true, decide_eq_false, wr_id, simprocAttr, -Nat.reduceSubDiff]
    · have i1 := half_even g1 e
      have e : n % 2 = 0 := by omega
      rw [e] at m2
      have hsz : (s ++ s).size = s.size + s.size := ByteArray.size_append
      (simp -dsimp (disch := first | omega | (simp only [h, m2, d2, List.length_cons, List.length_nil, List.length_map, List.length_append, List.length_take, List.length_drop, List.length_replicate, List.length_set, mkG_len] <;> omega) | fail) only [push_cast, if_pos, decide_eq_true, decide_eq_false, h, m2, d2, simprocAttr, -Nat.reduceSubDiff]) <;> (repeat (refine ex_draw (by kernel_rfl) ?_; simp -dsimp (disch := first | omega | (simp only [h, m2, d2, List.length_cons, List.length_nil, List.length_map, List.length_append, List.length_take, List.length_drop, List.length_replicate, List.length_set, mkG_len] <;> omega) | fail) only [push_cast, if_pos, decide_eq_true, decide_eq_false, h, m2, d2, simprocAttr, -Nat.reduceSubDiff]))
      refine ih (s ++ s, n / 2, o) _ (by show n / 2 < n; omega) ⟨by show o.size + (s ++ s).size * (n / 2) ≤ K; rw [hsz]; exact i1, by show (s ++ s).size ≤ 2000000; omega, by show n / 2 ≤ 1000000; omega⟩ ?_
      simp -dsimp (disch := first | omega | (simp only [wr_id, List.length_cons, List.length_nil, List.length_map, List.length_append, List.length_take, List.length_drop, List.length_replicate, List.length_set, mkG_len] <;> omega) | fail) only [push_cast, if_pos, decide_eq_true, decide_eq_false, wr_id, simprocAttr, -Nat.reduceSubDiff]
  · (simp -dsimp (disch := first | omega | (simp only [h, List.length_cons, List.length_nil, List.length_map, List.length_append, List.length_take, List.length_drop, List.length_replicate, List.length_set, mkG_len] <;> omega) | fail) only [push_cast, if_pos, decide_eq_true, decide_eq_false, h, simprocAttr, -Nat.reduceSubDiff]) <;> (repeat (refine ex_draw (by kernel_rfl) ?_; simp -dsimp (disch := first | omega | (simp only [h, List.length_cons, List.length_nil, List.length_map, List.length_append, List.length_take, List.length_drop, List.length_replicate, List.length_set, mkG_len] <;> omega) | fail) only [push_cast, if_pos, decide_eq_true, decide_eq_false, h, simprocAttr, -Nat.reduceSubDiff]))
    exact ⟨_, ⟨o, rfl, by omega⟩, rfl⟩
end Go.Proofs.YtgkncgiglmdnaaaGreatDoor.Mx

/- Drawn things. -/
namespace Go.Proofs.YtgkncgiglmdnaaaGreatDoor.Mx
set_option linter.all false
open Go Go.RowKit Go.Proofs
set_option linter.unusedSimpArgs false
theorem sz1 (a : UInt8) : (⟨#[a]⟩ : ByteArray).size = 1 := rfl
theorem sz10 (a b c d e f g h i j : UInt8) : (⟨#[a, b, c, d, e, f, g, h, i, j]⟩ : ByteArray).size = 10 := rfl
theorem nat_of' {x : Int} (h : 0 ≤ x) : ∃ n : Nat, x = n := ⟨x.toNat, by omega⟩
def thR (c : List Int) (p : Int) (r : Ans) : Prop := ∃ (t : Str) (p' : Int), r = (.sc (.string t), [some (.pb true (rdC1 c p'))]) ∧ t.size ≤ 10000 ∧ p ≤ p' ∧ p' ≤ p + 10
theorem byte_row {v : Int} (h0 : 0 ≤ v) (h1 : v ≤ 255) : ([.sc (.int .u8 v)] : Row) = byteRow (UInt8.ofNat v.toNat) := by
  unfold byteRow
  rw [UInt8.toNat_ofNat']
  rw [Nat.mod_eq_of_lt (by omega), show ((v.toNat : Nat) : Int) = v by omega]
def E91 : Env := { T := T0, kp := look [(0, [0]), (1, [0]), (2, [0, 8]), (3, [0]), (4, [0, 8]), (5, [0]), (6, [0, 8]), (7, [0]), (8, [0, 8]), (9, [0]), (10, [0]), (11, [0, 3]), (12, [0, 3, 4]), (13, [0, 3, 4, 5]), (14, [0, 3, 4, 5, 6]), (15, [0, 3, 4, 5, 6]), (16, [0, 3, 4, 5, 6]), (17, [0, 3, 4, 5, 6]), (18, [0, 3])], md := look3 [(1, 1, [1, 0]), (5, 1, [1, 0]), (7, 1, [1, 0]), (9, 1, [1, 0]), (11, 1, [1, 0]), (11, 3, [1, 0]), (12, 1, [1, 0]), (12, 4, [1, 0])] }
attribute [local push_cast] E91
set_option maxRecDepth 20000 in
set_option maxHeartbeats 400000 in
theorem l2Thing (c : List Int) (p : Int) (hc : okCode c) (hp : 0 ≤ p) (hp2 : p ≤ 10000) : ∃ r, thR c p r ∧ Does Tryz.prog 91 [.pb true (rdC1 c p)] r := by
  refine does_ex (E := E91) (rs := [.tmp 2]) (lent := [true]) tOk rfl Tryz.func91 rfl (by decide) rfl rfl (Nat.le_of_ble_eq_true rfl) (Nat.le_of_ble_eq_true rfl) ?_
  obtain ⟨z0, z1⟩ := pickF_nn hc p 10 hp (by omega)
  have z1 := z1 (by omega)
  (simp -dsimp (disch := first | omega | (simp only [List.length_cons, List.length_nil, List.length_map, List.length_append, List.length_take, List.length_drop, List.length_replicate, List.length_set, mkG_len] <;> omega) | fail) only [push_cast, if_pos, decide_eq_true, decide_eq_false, simprocAttr, -Nat.reduceSubDiff]) <;> (repeat (refine ex_draw (by kernel_rfl) ?_; simp -dsimp (disch := first | omega | (simp only [List.length_cons, List.length_nil, List.length_map, List.length_append, List.length_take, List.length_drop, List.length_replicate, List.length_set, mkG_len] <;> omega) | fail) only [push_cast, if_pos, decide_eq_true, decide_eq_false, simprocAttr, -Nat.reduceSubDiff]))
  refine ex_call (pick c p 10 hc hp (by omega) (by omega)) ?_
  obtain ⟨N, hN⟩ := nat_of' z0
  rw [hN]
  by_cases n0 : N = 0
  · subst n0
    (simp -dsimp (disch := first | omega | (simp only [List.length_cons, List.length_nil, List.length_map, List.length_append, List.length_take, List.length_drop, List.length_replicate, List.length_set, mkG_len] <;> omega) | fail) only [push_cast, if_pos, decide_eq_true, decide_eq_false, simprocAttr, -Nat.reduceSubDiff]) <;> (repeat (refine ex_draw (by kernel_rfl) ?_; simp -dsimp (disch := first | omega | (simp only [List.length_cons, List.length_nil, List.length_map, List.length_append, List.length_take, List.length_drop, List.length_replicate, List.length_set, mkG_len] <;> omega) | fail) only [push_cast, if_pos, decide_eq_true, decide_eq_false, simprocAttr, -Nat.reduceSubDiff]))
    exact ⟨_, ⟨⟨#[]⟩, p + 1, rfl, Nat.zero_le _, by omega, by omega⟩, rfl⟩
  by_cases n1 : N = 1
  · subst n1
    (simp -dsimp (disch := first | omega | (simp only [List.length_cons, List.length_nil, List.length_map, List.length_append, List.length_take, List.length_drop, List.length_replicate, List.length_set, mkG_len] <;> omega) | fail) only [push_cast, if_pos, decide_eq_true, decide_eq_false, simprocAttr, -Nat.reduceSubDiff]) <;> (repeat (refine ex_draw (by kernel_rfl) ?_; simp -dsimp (disch := first | omega | (simp only [List.length_cons, List.length_nil, List.length_map, List.length_append, List.length_take, List.length_drop, List.length_replicate, List.length_set, mkG_len] <;> omega) | fail) only [push_cast, if_pos, decide_eq_true, decide_eq_false, simprocAttr, -Nat.reduceSubDiff]))
    obtain ⟨y0, y1⟩ := pickF_nn hc (p + 1) 200 (by omega) (by omega)
    have y1 := y1 (by omega)
    refine ex_call (pick c (p + 1) 200 hc (by omega) (by omega) (by omega)) ?_
    obtain ⟨k, hk⟩ := nat_of' y0
    rw [hk]
    (simp -dsimp (disch := first | omega | (simp only [List.length_cons, List.length_nil, List.length_map, List.length_append, List.length_take, List.length_drop, List.length_replicate, List.length_set, mkG_len] <;> omega) | fail) only [push_cast, if_pos, decide_eq_true, decide_eq_false, simprocAttr, -Nat.reduceSubDiff]) <;> (repeat (refine ex_draw (by kernel_rfl) ?_; simp -dsimp (disch := first | omega | (simp only [List.length_cons, List.length_nil, List.length_map, List.length_append, List.length_take, List.length_drop, List.length_replicate, List.length_set, mkG_len] <;> omega) | fail) only [push_cast, if_pos, decide_eq_true, decide_eq_false, simprocAttr, -Nat.reduceSubDiff]))
    refine ex_some (l1Many ⟨#[122]⟩ k 200 (by omega) (by rw [sz1]; omega) (by omega) (by rw [sz1]; omega)) ?_
    rintro _ ⟨t, rfl, ht⟩
    (simp -dsimp (disch := first | omega | (simp only [List.length_cons, List.length_nil, List.length_map, List.length_append, List.length_take, List.length_drop, List.length_replicate, List.length_set, mkG_len] <;> omega) | fail) only [push_cast, if_pos, decide_eq_true, decide_eq_false, simprocAttr, -Nat.reduceSubDiff]) <;> (repeat (refine ex_draw (by kernel_rfl) ?_; simp -dsimp (disch := first | omega | (simp only [List.length_cons, List.length_nil, List.length_map, List.length_append, List.length_take, List.length_drop, List.length_replicate, List.length_set, mkG_len] <;> omega) | fail) only [push_cast, if_pos, decide_eq_true, decide_eq_false, simprocAttr, -Nat.reduceSubDiff]))
    exact ⟨_, ⟨t, p + 1 + 1, rfl, by omega, by omega, by omega⟩, rfl⟩
  by_cases n2 : N = 2
  · subst n2
    (simp -dsimp (disch := first | omega | (simp only [List.length_cons, List.length_nil, List.length_map, List.length_append, List.length_take, List.length_drop, List.length_replicate, List.length_set, mkG_len] <;> omega) | fail) only [push_cast, if_pos, decide_eq_true, decide_eq_false, simprocAttr, -Nat.reduceSubDiff]) <;> (repeat (refine ex_draw (by kernel_rfl) ?_; simp -dsimp (disch := first | omega | (simp only [List.length_cons, List.length_nil, List.length_map, List.length_append, List.length_take, List.length_drop, List.length_replicate, List.length_set, mkG_len] <;> omega) | fail) only [push_cast, if_pos, decide_eq_true, decide_eq_false, simprocAttr, -Nat.reduceSubDiff]))
    obtain ⟨y0, y1⟩ := pickF_nn hc (p + 1) 30 (by omega) (by omega)
    have y1 := y1 (by omega)
    refine ex_call (pick c (p + 1) 30 hc (by omega) (by omega) (by omega)) ?_
    obtain ⟨k, hk⟩ := nat_of' y0
    rw [hk]
    (simp -dsimp (disch := first | omega | (simp only [List.length_cons, List.length_nil, List.length_map, List.length_append, List.length_take, List.length_drop, List.length_replicate, List.length_set, mkG_len] <;> omega) | fail) only [push_cast, if_pos, decide_eq_true, decide_eq_false, simprocAttr, -Nat.reduceSubDiff]) <;> (repeat (refine ex_draw (by kernel_rfl) ?_; simp -dsimp (disch := first | omega | (simp only [List.length_cons, List.length_nil, List.length_map, List.length_append, List.length_take, List.length_drop, List.length_replicate, List.length_set, mkG_len] <;> omega) | fail) only [push_cast, if_pos, decide_eq_true, decide_eq_false, simprocAttr, -Nat.reduceSubDiff]))
    refine ex_some (l1Many ⟨#[97, 98, 99, 100, 101, 102, 103, 104, 105, 106]⟩ k 300 (by omega) (by rw [sz10]; omega) (by omega) (by rw [sz10]; omega)) ?_
    rintro _ ⟨t, rfl, ht⟩
    (simp -dsimp (disch := first | omega | (simp only [List.length_cons, List.length_nil, List.length_map, List.length_append, List.length_take, List.length_drop, List.length_replicate, List.length_set, mkG_len] <;> omega) | fail) only [push_cast, if_pos, decide_eq_true, decide_eq_false, simprocAttr, -Nat.reduceSubDiff]) <;> (repeat (refine ex_draw (by kernel_rfl) ?_; simp -dsimp (disch := first | omega | (simp only [List.length_cons, List.length_nil, List.length_map, List.length_append, List.length_take, List.length_drop, List.length_replicate, List.length_set, mkG_len] <;> omega) | fail) only [push_cast, if_pos, decide_eq_true, decide_eq_false, simprocAttr, -Nat.reduceSubDiff]))
    exact ⟨_, ⟨t, p + 1 + 1, rfl, by omega, by omega, by omega⟩, rfl⟩
  by_cases n3 : N = 3
  · subst n3
    (simp -dsimp (disch := first | omega | (simp only [List.length_cons, List.length_nil, List.length_map, List.length_append, List.length_take, List.length_drop, List.length_replicate, List.length_set, mkG_len] <;> omega) | fail) only [push_cast, if_pos, decide_eq_true, decide_eq_false, simprocAttr, -Nat.reduceSubDiff]) <;> (repeat (refine ex_draw (by kernel_rfl) ?_; simp -dsimp (disch := first | omega | (simp only [List.length_cons, List.length_nil, List.length_map, List.length_append, List.length_take, List.length_drop, List.length_replicate, List.length_set, mkG_len] <;> omega) | fail) only [push_cast, if_pos, decide_eq_true, decide_eq_false, simprocAttr, -Nat.reduceSubDiff]))
    obtain ⟨y0, y1⟩ := pickF_nn hc (p + 1) 2 (by omega) (by omega)
    have y1 := y1 (by omega)
    refine ex_call (pick c (p + 1) 2 hc (by omega) (by omega) (by omega)) ?_
    obtain ⟨k, hk⟩ := nat_of' y0
    rw [hk]
    obtain ⟨m, hm⟩ := nat_of' (show 0 ≤ (3000 : Int) - k by omega)
    (simp -dsimp (disch := first | omega | (simp only [wr_id, hm, List.length_cons, List.length_nil, List.length_map, List.length_append, List.length_take, List.length_drop, List.length_replicate, List.length_set, mkG_len] <;> omega) | fail) only [push_cast, if_pos, decide_eq_true, decide_eq_false, wr_id, hm, simprocAttr, -Nat.reduceSubDiff]) <;> (repeat (refine ex_draw (by kernel_rfl) ?_; simp -dsimp (disch := first | omega | (simp only [wr_id, hm, List.length_cons, List.length_nil, List.length_map, List.length_append, List.length_take, List.length_drop, List.length_replicate, List.length_set, mkG_len] <;> omega) | fail) only [push_cast, if_pos, decide_eq_true, decide_eq_false, wr_id, hm, simprocAttr, -Nat.reduceSubDiff]))
    refine ex_some (l1Many ⟨#[109]⟩ m 3000 (by omega) (by rw [sz1]; omega) (by omega) (by rw [sz1]; omega)) ?_
    rintro _ ⟨t, rfl, ht⟩
    (simp -dsimp (disch := first | omega | (simp only [List.length_cons, List.length_nil, List.length_map, List.length_append, List.length_take, List.length_drop, List.length_replicate, List.length_set, mkG_len] <;> omega) | fail) only [push_cast, if_pos, decide_eq_true, decide_eq_false, simprocAttr, -Nat.reduceSubDiff]) <;> (repeat (refine ex_draw (by kernel_rfl) ?_; simp -dsimp (disch := first | omega | (simp only [List.length_cons, List.length_nil, List.length_map, List.length_append, List.length_take, List.length_drop, List.length_replicate, List.length_set, mkG_len] <;> omega) | fail) only [push_cast, if_pos, decide_eq_true, decide_eq_false, simprocAttr, -Nat.reduceSubDiff]))
    exact ⟨_, ⟨t, p + 1 + 1, rfl, by omega, by omega, by omega⟩, rfl⟩
  (simp -dsimp (disch := first | omega | (simp only [n0, n1, n2, n3, List.length_cons, List.length_nil, List.length_map, List.length_append, List.length_take, List.length_drop, List.length_replicate, List.length_set, mkG_len] <;> omega) | fail) only [push_cast, if_pos, decide_eq_true, decide_eq_false, n0, n1, n2, n3, simprocAttr, -Nat.reduceSubDiff]) <;> (repeat (refine ex_draw (by kernel_rfl) ?_; simp -dsimp (disch := first | omega | (simp only [n0, n1, n2, n3, List.length_cons, List.length_nil, List.length_map, List.length_append, List.length_take, List.length_drop, List.length_replicate, List.length_set, mkG_len] <;> omega) | fail) only [push_cast, if_pos, decide_eq_true, decide_eq_false, n0, n1, n2, n3, simprocAttr, -Nat.reduceSubDiff]))
  obtain ⟨y0, y1⟩ := pickF_nn hc (p + 1) 200 (by omega) (by omega)
  have y1 := y1 (by omega)
  refine ex_call (pick c (p + 1) 200 hc (by omega) (by omega) (by omega)) ?_
  (simp -dsimp (disch := first | omega | (simp only [List.length_cons, List.length_nil, List.length_map, List.length_append, List.length_take, List.length_drop, List.length_replicate, List.length_set, mkG_len] <;> omega) | fail) only [push_cast, if_pos, decide_eq_true, decide_eq_false, simprocAttr, -Nat.reduceSubDiff]) <;> (repeat (refine ex_draw (by kernel_rfl) ?_; simp -dsimp (disch := first | omega | (simp only [List.length_cons, List.length_nil, List.length_map, List.length_append, List.length_take, List.length_drop, List.length_replicate, List.length_set, mkG_len] <;> omega) | fail) only [push_cast, if_pos, decide_eq_true, decide_eq_false, simprocAttr, -Nat.reduceSubDiff]))
  obtain ⟨x0, x1⟩ := pickF_nn hc (p + 1 + 1) 200 (by omega) (by omega)
  have x1 := x1 (by omega)
  refine ex_call (pick c (p + 1 + 1) 200 hc (by omega) (by omega) (by omega)) ?_
  obtain ⟨T, hT⟩ : ∃ T : Nat, pickF c (p + 1) 200 + pickF c (p + 1 + 1) 200 = T := nat_of' (by omega)
  have hT4 : T ≤ 400 := by omega
  (simp -dsimp (disch := first | omega | (simp only [wr_id, hT, List.length_cons, List.length_nil, List.length_map, List.length_append, List.length_take, List.length_drop, List.length_replicate, List.length_set, mkG_len] <;> omega) | fail) only [push_cast, if_pos, decide_eq_true, decide_eq_false, wr_id, hT, simprocAttr, -Nat.reduceSubDiff]) <;> (repeat (refine ex_draw (by kernel_rfl) ?_; simp -dsimp (disch := first | omega | (simp only [wr_id, hT, List.length_cons, List.length_nil, List.length_map, List.length_append, List.length_take, List.length_drop, List.length_replicate, List.length_set, mkG_len] <;> omega) | fail) only [push_cast, if_pos, decide_eq_true, decide_eq_false, wr_id, hT, simprocAttr, -Nat.reduceSubDiff]))
  obtain ⟨v0, v1⟩ := pickF_nn hc (p + 1 + 1 + 1) 256 (by omega) (by omega)
  have v1 := v1 (by omega)
  refine ex_call (pick c (p + 1 + 1 + 1) 256 hc (by omega) (by omega) (by omega)) ?_
  (simp -dsimp (disch := first | omega | (simp only [wr_id, List.length_cons, List.length_nil, List.length_map, List.length_append, List.length_take, List.length_drop, List.length_replicate, List.length_set, mkG_len] <;> omega) | fail) only [push_cast, if_pos, decide_eq_true, decide_eq_false, wr_id, simprocAttr, -Nat.reduceSubDiff]) <;> (repeat (refine ex_draw (by kernel_rfl) ?_; simp -dsimp (disch := first | omega | (simp only [wr_id, List.length_cons, List.length_nil, List.length_map, List.length_append, List.length_take, List.length_drop, List.length_replicate, List.length_set, mkG_len] <;> omega) | fail) only [push_cast, if_pos, decide_eq_true, decide_eq_false, wr_id, simprocAttr, -Nat.reduceSubDiff]))
  obtain ⟨u0, u1⟩ := pickF_nn hc (p + 1 + 1 + 1 + 1) 256 (by omega) (by omega)
  have u1 := u1 (by omega)
  refine ex_call (pick c (p + 1 + 1 + 1 + 1) 256 hc (by omega) (by omega) (by omega)) ?_
  generalize pickF c (p + 1 + 1 + 1) 256 = V at *
  generalize pickF c (p + 1 + 1 + 1 + 1) 256 = U at *
  obtain ⟨X, hX⟩ := nat_of' (show 0 ≤ V * 256 + U + 1 by omega)
  have hX6 : X ≤ 65536 := by omega
  (simp -dsimp (disch := first | omega | (simp only [wr_id, hX, List.length_cons, List.length_nil, List.length_map, List.length_append, List.length_take, List.length_drop, List.length_replicate, List.length_set, mkG_len] <;> omega) | fail) only [push_cast, if_pos, decide_eq_true, decide_eq_false, wr_id, hX, simprocAttr, -Nat.reduceSubDiff]) <;> (repeat (refine ex_draw (by kernel_rfl) ?_; simp -dsimp (disch := first | omega | (simp only [wr_id, hX, List.length_cons, List.length_nil, List.length_map, List.length_append, List.length_take, List.length_drop, List.length_replicate, List.length_set, mkG_len] <;> omega) | fail) only [push_cast, if_pos, decide_eq_true, decide_eq_false, wr_id, hX, simprocAttr, -Nat.reduceSubDiff]))
  refine ex_loop (α := Nat × Nat × List UInt8) (fun q => q.1 ≤ T ∧ q.2.1 ≤ 65536 ∧ q.2.2.length = q.1)
    (fun q => ⟨[(0, .pt 1 0 0), (3, .ow 2 0 q.2.2.length), (4, .sc (.int .i64 T)), (5, .sc (.int .i64 q.2.1)), (6, .sc (.int .i64 q.1))], [(1, .bx (rdC1 c (p + 1 + 1 + 1 + 1 + 1))), (2, .ar 1 0 (q.2.2.map byteRow))], 3⟩)
    (fun q => T - q.1) (0, X, []) ⟨Nat.zero_le _, hX6, rfl⟩ ?_ ?_
  · simp -dsimp (disch := first | omega | (simp only [List.length_cons, List.length_nil, List.length_map, List.length_append, List.length_take, List.length_drop, List.length_replicate, List.length_set, mkG_len] <;> omega) | fail) only [push_cast, if_pos, decide_eq_true, decide_eq_false, simprocAttr, -Nat.reduceSubDiff]
  rintro ⟨i, x, B⟩ ⟨g1, g2, g3⟩ ih
  replace g1 : i ≤ T := g1
  replace g2 : x ≤ 65536 := g2
  replace g3 : B.length = i := g3
  clear hX hT x0 x1 y0 y1 u0 u1 v0 v1 z0 z1 hX6
  by_cases h : i < T
  · have e1 : ((x : Int) * 4005 + 7).tmod 65521 = (((x * 4005 + 7) % 65521 : Nat) : Int) := by
      rw [show (x : Int) * 4005 + 7 = ((x * 4005 + 7 : Nat) : Int) by omega]; rfl
    have hy : (x * 4005 + 7) % 65521 < 65521 := Nat.mod_lt _ (by omega)
    obtain ⟨y, hye⟩ : ∃ y, y = (x * 4005 + 7) % 65521 := ⟨_, rfl⟩
    rw [← hye] at e1 hy
    clear hye
    obtain ⟨q, hq⟩ : ∃ q, q = y / 7 := ⟨_, rfl⟩
    have e5 : (y : Int).tdiv 7 = (q : Int) := by rw [hq]; rfl
    have hq7 : q ≤ 65536 := by omega
    have e2 : (q : Int).tmod 26 = ((q % 26 : Nat) : Int) := rfl
    have hz : q % 26 < 26 := Nat.mod_lt _ (by omega)
    obtain ⟨z, hze⟩ : ∃ z, z = q % 26 := ⟨_, rfl⟩
    rw [← hze] at e2 hz
    clear hze hq
    have e3 := byte_row (v := 97 + (z : Int)) (by omega) (by omega)
    have e4 : wr .u8 (97 + (z : Int)) = 97 + (z : Int) := by rw [wr_u8]; omega
    (simp -dsimp (disch := first | omega | (simp only [h, e1, e2, e4, e5, wr_id, List.length_cons, List.length_nil, List.length_map, List.length_append, List.length_take, List.length_drop, List.length_replicate, List.length_set, mkG_len] <;> omega) | fail) only [push_cast, if_pos, decide_eq_true, decide_eq_false, h, e1, e2, e4, e5, wr_id, simprocAttr, -Nat.reduceSubDiff]) <;> (repeat (refine ex_draw (by kernel_rfl) ?_; simp -dsimp (disch := first | omega | (simp only [h, e1, e2, e4, e5, wr_id, List.length_cons, List.length_nil, List.length_map, List.length_append, List.length_take, List.length_drop, List.length_replicate, List.length_set, mkG_len] <;> omega) | fail) only [push_cast, if_pos, decide_eq_true, decide_eq_false, h, e1, e2, e4, e5, wr_id, simprocAttr, -Nat.reduceSubDiff]))
    refine ih (i + 1, y, B ++ [UInt8.ofNat (97 + (z : Int)).toNat]) _ (by show T - (i + 1) < T - i; omega) ⟨h, by show y ≤ 65536; omega, by show (B ++ _).length = i + 1; rw [List.length_append, g3]; rfl⟩ ?_
    simp -dsimp (disch := first | omega | (simp only [wr_id, List.map_append, List.length_append, List.length_cons, List.length_nil, List.map_cons, List.map_nil, ← e3, List.length_cons, List.length_nil, List.length_map, List.length_append, List.length_take, List.length_drop, List.length_replicate, List.length_set, mkG_len] <;> omega) | fail) only [push_cast, if_pos, decide_eq_true, decide_eq_false, wr_id, List.map_append, List.length_append, List.length_cons, List.length_nil, List.map_cons, List.map_nil, ← e3, simprocAttr, -Nat.reduceSubDiff]
  · have hi : i = T := by omega
    (simp -dsimp (disch := first | omega | (simp only [hi, List.length_cons, List.length_nil, List.length_map, List.length_append, List.length_take, List.length_drop, List.length_replicate, List.length_set, mkG_len] <;> omega) | fail) only [push_cast, if_pos, decide_eq_true, decide_eq_false, hi, simprocAttr, -Nat.reduceSubDiff]) <;> (repeat (refine ex_draw (by kernel_rfl) ?_; simp -dsimp (disch := first | omega | (simp only [hi, List.length_cons, List.length_nil, List.length_map, List.length_append, List.length_take, List.length_drop, List.length_replicate, List.length_set, mkG_len] <;> omega) | fail) only [push_cast, if_pos, decide_eq_true, decide_eq_false, hi, simprocAttr, -Nat.reduceSubDiff]))
    exact ⟨_, ⟨stB B, _, rfl, by rw [stB_size]; omega, by omega, by omega⟩, rfl⟩
end Go.Proofs.YtgkncgiglmdnaaaGreatDoor.Mx

/- Sets that differ: what is there, notes. -/
namespace Go.Proofs.YtgkncgiglmdnaaaGreatDoor.Mx
set_option linter.all false
open Go Go.RowKit
def jb (l : List Str) : List UInt8 := l.flatMap bt
theorem jb_app (a b : List Str) : jb (a ++ b) = jb a ++ jb b := List.flatMap_append ..
theorem jb_one (x : Str) : jb [x] = bt x := by simp [jb]
/-! a map that holds texts -/
def mset (l : List Str) : List (Value × Value) := l.foldl (fun es x => kset es (.string x) (.bool true)) []
end Go.Proofs.YtgkncgiglmdnaaaGreatDoor.Mx

/- What a store lacks of a list: pure. -/
namespace Go.Proofs.YtgkncgiglmdnaaaGreatDoor.Mx
set_option linter.all false
open Go Go.RowKit
/-- where a sum's text lies in a store -/
def atI (w : Int) (n : Str) : List Item → Int
  | [] => -1
  | x :: r => if sumS x.t w = n then 0 else if atI w n r < 0 then -1 else atI w n r + 1
theorem at_some {w : Int} {n : Str} : ∀ {I : List Item} {i : Nat} {x : Item}, (∀ j y, j < i → I[j]? = some y → sumS y.t w ≠ n) → I[i]? = some x → sumS x.t w = n → atI w n I = i
  | [], i, x, _, h, _ => by simp at h
  | y :: r, 0, x, _, h, e => by
    cases h
    rw [atI, if_pos e]; rfl
  | y :: r, i + 1, x, hn, h, e => by
    have h1 := hn 0 y (by omega) rfl
    have ih := at_some (I := r) (i := i) (fun j z hj hz => hn (j + 1) z (by omega) hz) h e
    rw [atI, if_neg h1, ih, if_neg (by omega)]; omega
theorem at_none {w : Int} {n : Str} : ∀ {I : List Item}, (∀ y ∈ I, sumS y.t w ≠ n) → atI w n I = -1
  | [], _ => rfl
  | y :: r, hn => by
    rw [atI, if_neg (hn y (by simp)), at_none (I := r) (fun z hz => hn z (by simp [hz])), if_pos (by omega)]
theorem at_get {w : Int} {n : Str} : ∀ {I : List Item}, 0 ≤ atI w n I → ∃ (i : Nat) (x : Item), atI w n I = i ∧ I[i]? = some x ∧ sumS x.t w = n
  | [], h => by rw [atI] at h; omega
  | y :: r, h => by
    rw [atI] at h ⊢
    by_cases e : sumS y.t w = n
    · rw [if_pos e]; exact ⟨0, y, rfl, rfl, e⟩
    · rw [if_neg e] at h ⊢
      by_cases h2 : atI w n r < 0
      · rw [if_pos h2] at h; omega
      · obtain ⟨i, x, h3, h4, h5⟩ := at_get (w := w) (n := n) (I := r) (by omega)
        rw [if_neg h2, h3]
        exact ⟨i + 1, x, by omega, h4, h5⟩
theorem at_ge {w : Int} {n : Str} : ∀ {I : List Item}, -1 ≤ atI w n I
  | [] => by rw [atI]; omega
  | y :: r => by
    rw [atI]
    split
    · omega
    · split <;> omega
theorem at_neg {w : Int} {n : Str} {I : List Item} : atI w n I < 0 ↔ inL (I.map fun x => sumS x.t w) n = false := by
  constructor
  · intro h
    cases hb : inL (I.map fun x => sumS x.t w) n with
    | false => rfl
    | true =>
      obtain ⟨x, hx, e⟩ := List.mem_map.1 ((inL_iff _ _).1 hb)
      exfalso
      have : ∀ (I : List Item), x ∈ I → 0 ≤ atI w n I := fun I => by
        induction I with
        | nil => intro h; cases h
        | cons y r ih =>
          intro h
          rw [atI]
          by_cases e2 : sumS y.t w = n
          · rw [if_pos e2]; omega
          · rw [if_neg e2]
            rcases List.mem_cons.1 h with rfl | h
            · exact (e2 e).elim
            · have := ih h
              rw [if_neg (by omega)]; omega
      have := this I hx
      omega
  · intro h
    apply Classical.byContradiction
    intro hc
    obtain ⟨i, x, _, h1, h2⟩ := at_get (w := w) (n := n) (I := I) (by omega)
    have : inL (I.map fun x => sumS x.t w) n = true := (inL_iff _ _).2 (List.mem_map.2 ⟨x, List.mem_of_getElem? h1, h2⟩)
    rw [this] at h; cases h
/-- the list of a name -/
noncomputable def listF (s : Store) (n : Str) : Lst × Bool := if atI s.w n s.I < 0 then (⟨0, []⟩, false) else match s.I[(atI s.w n s.I).toNat]? with
  | some x => readL x.t s.w
  | none => (⟨0, []⟩, false)
def lackL (w : Int) (I : List Item) : List Str → List Str → List Str
  | acc, [] => acc
  | acc, x :: r => lackL w I (if atI w x I < 0 ∧ inL acc x = false then acc ++ [x] else acc) r
noncomputable def lacksF (s : Store) (n : Str) : List Str := if validSt s = false ∨ (n.size : Int) ≠ s.w then [] else if (listF s n).2 = false then [n] else lackL s.w s.I [] (listF s n).1.S
theorem lackL_len (w : Int) (I : List Item) : ∀ (L acc : List Str), (lackL w I acc L).length ≤ acc.length + L.length
  | [], acc => Nat.le_refl _
  | x :: r, acc => by
    rw [lackL]
    have := lackL_len w I r (if atI w x I < 0 ∧ inL acc x = false then acc ++ [x] else acc)
    split at this
    · rw [List.length_append] at this
      rw [if_pos (by assumption)]
      simp only [List.length_cons, List.length_nil] at this ⊢; omega
    · rw [if_neg (by assumption)]
      rw [List.length_cons]; omega
theorem list_ok {s : Store} {n : Str} : (listF s n).1.S.length ≤ 375 ∧ ∀ x ∈ (listF s n).1.S, x.size ≤ 8 := by
  unfold listF
  split
  · simp
  · split
    · rename_i x _
      cases h : (readL x.t s.w).2 with
      | false => rw [read_fst h]; simp
      | true =>
        obtain ⟨_, w8, _, _, hn, hs⟩ := okLs_up (read_ok h).1
        exact ⟨hn, fun y hy => by have := hs y hy; omega⟩
    · simp
theorem mset_app (l : List Str) (x : Str) : mset (l ++ [x]) = kset (mset l) (.string x) (.bool true) := by
  unfold mset; rw [List.foldl_append]; rfl
theorem inL_app (l m : List Str) (x : Str) : inL (l ++ m) x = (inL l x || inL m x) := by unfold inL; rw [List.any_append]
end Go.Proofs.YtgkncgiglmdnaaaGreatDoor.Mx

/- Things built of pieces, loaded from stores: pure. -/
namespace Go.Proofs.YtgkncgiglmdnaaaGreatDoor.Mx
set_option linter.all false
open Go Go.RowKit
/-- pieces held against sums, from a size on -/
def bldB (w : Int) : Nat → List Str → List Str → Bool
  | _, [], [] => true
  | n, p :: r, s :: q => decide (n + p.size ≤ 3000) && decide (sumS p w = s) && bldB w (n + p.size) r q
  | _, _, _ => false
def buildF (l : Lst) (ps : List Str) (w : Int) : Str × Bool :=
  if okLs l w = true ∧ ps.length = l.S.length ∧ bldB w 0 ps l.S = true ∧ ((jb ps).length : Int) = l.sz ∧ (descL (stB (jb ps)) w).1 = l then (stB (jb ps), true) else (em, false)
theorem build_no {l : Lst} {ps : List Str} {w : Int} (h : okLs l w = false ∨ ps.length ≠ l.S.length ∨ bldB w 0 ps l.S = false ∨ ((jb ps).length : Int) ≠ l.sz ∨ (descL (stB (jb ps)) w).1 ≠ l) : buildF l ps w = (em, false) := by
  unfold buildF
  rw [if_neg]
  rintro ⟨a, b, c, d, e⟩
  rcases h with h | h | h | h | h
  · rw [a] at h; cases h
  · exact h b
  · rw [c] at h; cases h
  · exact h d
  · exact h e
theorem jb_take {l : List Str} {i : Nat} {x : Str} (h : l[i]? = some x) : (jb (l.take (i + 1))).length = (jb (l.take i)).length + x.size := by
  rw [take_step h, jb_app, jb_one, List.length_append, bt_len]
theorem build_len {l : Lst} {ps : List Str} {w : Int} : (buildF l ps w).1.size ≤ 3000 := by
  unfold buildF
  split
  · rename_i h
    obtain ⟨_, _, _, s3, _, _⟩ := okLs_up h.1
    rw [stB_size]; omega
  · exact Nat.zero_le _
/-- the text with a sum -/
def textAt (s : Store) (x : Str) : Str := match s.I[(atI s.w x s.I).toNat]? with | some y => y.t | none => em
noncomputable def loadF0 (s : Store) (n : Str) : Str × Bool :=
  if (listF s n).2 = true ∧ ((listF s n).1.S.all fun x => decide (0 ≤ atI s.w x s.I)) = true then buildF (listF s n).1 ((listF s n).1.S.map (textAt s)) s.w else (em, false)
noncomputable def loadF (s : Store) (n : Str) : Str × Bool := if validSt s = false then (em, false) else loadF0 s n
theorem textAt_some {s : Store} {x : Str} {y : Item} {i : Nat} (h : atI s.w x s.I = i) (hy : s.I[i]? = some y) : textAt s x = y.t := by
  unfold textAt; rw [h, Int.toNat_natCast, hy]
theorem textAt_sz {s : Store} (hs : okStore s) (x : Str) : (textAt s x).size ≤ 2097152 := by
  unfold textAt
  split
  · rename_i y h; exact hs.1.2 y (List.mem_of_getElem? h)
  · exact Nat.zero_le _
theorem load_len {s : Store} {n : Str} : (loadF s n).1.size ≤ 3000 := by
  unfold loadF loadF0
  split
  · exact Nat.zero_le _
  · split
    · exact build_len
    · exact Nat.zero_le _
end Go.Proofs.YtgkncgiglmdnaaaGreatDoor.Mx

/- strings.Join with an empty separator. -/
namespace Go.Proofs.YtgkncgiglmdnaaaGreatDoor.Mx
set_option linter.all false
open Go Go.RowKit Go.Proofs
theorem join_em (l : List Str) : Lib.join (l.map (·.data.toList)) [] = jb l := by
  unfold Lib.join jb
  rw [List.flatMap_def]
  induction l with
  | nil => rfl
  | cons a r ih =>
    cases r with
    | nil => simp [List.intercalate, bt]
    | cons b q =>
      rw [List.map_cons, List.map_cons, List.intercalate] at *
      rw [List.intersperse_cons₂]
      simp only [List.map_cons, List.flatten_cons, List.nil_append] at ih ⊢
      rw [ih]; rfl
theorem joinEm (l : List Str) (hl : l.length ≤ 140737488355328) (hj : (jb l).length ≤ 140737488355328) : Does Tryz.prog 88 [.sl false 1 (l.map strR), .sc (.string ⟨#[]⟩)] (.sc (.string ⟨(jb l).toArray⟩), []) := by
  refine does_pure Tryz.func88 rfl rfl rfl fun w ok G args hA => ?_
  obtain ⟨u, v, rfl, h0, h1⟩ := args2 hA
  obtain rfl := rep_str (own_rep h1 (by intro z r h; cases h) (by intro cs h; cases h))
  rcases rep_strs (own_rep h0 (by intro z r h; cases h) (by intro cs h; cases h)) with ⟨rfl, A, c, rfl⟩ | ⟨b, off, cap, rfl, hc, hb, hcell⟩
  · exact (Any.strings_Join_none Tryz.lays156 Tryz.Builder_Extra_156 A c ⟨#[]⟩ w).mono fun e w' hh => ⟨hh.1, hh.2 ▸ Below.refl _ _⟩
  · have z := Any.strings_Join Tryz.lays156 Tryz.Builder_Extra_156 b off cap l ⟨#[]⟩ w hcell (hA.inn b hb) hl hc (by rw [show (⟨#[]⟩ : ByteArray).data.toList = [] from rfl, join_em]; exact hj)
    rw [show (⟨#[]⟩ : ByteArray).data.toList = [] from rfl, join_em] at z
    exact z
end Go.Proofs.YtgkncgiglmdnaaaGreatDoor.Mx

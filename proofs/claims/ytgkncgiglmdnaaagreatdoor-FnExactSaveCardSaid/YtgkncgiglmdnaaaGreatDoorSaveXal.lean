/- A machine over values for Go functions, proved sound, and functions run on it: texts F32, F33, VZ, F34. -/
import Derived.Test.YtgkncgiglmdnaaaGreatDoorSaveXah
import Derived.Test.YtgkncgiglmdnaaaGreatDoorSaveXak
/- Pieces. -/
namespace Go.Proofs.YtgkncgiglmdnaaaGreatDoor.Mx
set_option linter.all false
open Go Go.RowKit Go.Proofs
set_option linter.unusedSimpArgs false
theorem sixteen (h : Int) (h0 : 0 ≤ h) : h.tmod 16 = h % 16 := Int.tmod_eq_emod_of_nonneg h0
def E149 : Env := { T := T0, kp := look [(0, [0]), (1, [0]), (2, []), (3, [0])] }
attribute [local push_cast] E149
set_option maxHeartbeats 1000000 in
theorem l2Ends (p : Str) (hp : p.size ≤ 100000) : Does Tryz.prog 149 [.sc (.string p)] (.sc (.bool (endsB (bt p))), []) := by
  refine does_of (E := E149) (rs := [.tmp 2]) (lent := []) tOk rfl Tryz.func149 rfl (by decide) rfl rfl (Nat.le_of_ble_eq_true rfl) (Nat.le_of_ble_eq_true rfl) ?_
  obtain ⟨M, hM⟩ : ∃ M, M = endsB (bt p) := ⟨_, rfl⟩
  rw [← hM]
  have he := ends_ext (s := p) (a := 0) (i := p.size) (Nat.le_refl _) (Nat.zero_le _)
  have hc : curB p 0 p.size = bt p := by unfold curB; rw [List.drop_zero, List.take_of_length_le (by rw [bt_len]; exact Nat.le_refl _)]
  rw [hc, ← hM, Nat.sub_zero] at he
  by_cases h8 : 8 ≤ p.size
  rotate_left
  · have hM : M = false := by rw [he]; simp [h8]
    (simp -dsimp (disch := first | omega | (simp only [h8, hM, List.length_cons, List.length_nil, List.length_map, List.length_append, List.length_take, List.length_drop, List.length_replicate, List.length_set, mkG_len] <;> omega) | fail) only [push_cast, if_pos, decide_eq_true, decide_eq_false, h8, hM, simprocAttr, -Nat.reduceSubDiff]) <;> (repeat (refine (aw_draw (by kernel_rfl)).2 ?_; simp -dsimp (disch := first | omega | (simp only [h8, hM, List.length_cons, List.length_nil, List.length_map, List.length_append, List.length_take, List.length_drop, List.length_replicate, List.length_set, mkG_len] <;> omega) | fail) only [push_cast, if_pos, decide_eq_true, decide_eq_false, h8, hM, simprocAttr, -Nat.reduceSubDiff]))
  by_cases h64 : 64 ≤ p.size
  · have hM : M = true := by rw [he]; simp [h8, h64]
    (simp -dsimp (disch := first | omega | (simp only [h8, h64, hM, List.length_cons, List.length_nil, List.length_map, List.length_append, List.length_take, List.length_drop, List.length_replicate, List.length_set, mkG_len] <;> omega) | fail) only [push_cast, if_pos, decide_eq_true, decide_eq_false, h8, h64, hM, simprocAttr, -Nat.reduceSubDiff]) <;> (repeat (refine (aw_draw (by kernel_rfl)).2 ?_; simp -dsimp (disch := first | omega | (simp only [h8, h64, hM, List.length_cons, List.length_nil, List.length_map, List.length_append, List.length_take, List.length_drop, List.length_replicate, List.length_set, mkG_len] <;> omega) | fail) only [push_cast, if_pos, decide_eq_true, decide_eq_false, h8, h64, hM, simprocAttr, -Nat.reduceSubDiff]))
  have e1 : ((p.size : Int) - 8).toNat = p.size - 8 := by omega
  have e2 : p.size - 8 + ((p.size : Int) - ((p.size : Int) - 8)).toNat = p.size := by omega
  have hz : (p.extract (p.size - 8) p.size).size ≤ 8 := by rw [ext_size (Nat.le_refl _)]; omega
  have hs := l1Sum64 (p.extract (p.size - 8) p.size) (by omega)
  have hr := hash64_r (bt (p.extract (p.size - 8) p.size))
  have ht := sixteen _ hr.1
  generalize hash64 (bt (p.extract (p.size - 8) p.size)) = H at *
  have hM : M = decide (H % 16 = 0) := by rw [he]; simp [h8, h64]
  (simp -dsimp (disch := first | omega | (simp only [h8, h64, e1, e2, wr_id, List.length_cons, List.length_nil, List.length_map, List.length_append, List.length_take, List.length_drop, List.length_replicate, List.length_set, mkG_len] <;> omega) | fail) only [push_cast, if_pos, decide_eq_true, decide_eq_false, h8, h64, e1, e2, wr_id, simprocAttr, -Nat.reduceSubDiff]) <;> (repeat (refine (aw_draw (by kernel_rfl)).2 ?_; simp -dsimp (disch := first | omega | (simp only [h8, h64, e1, e2, wr_id, List.length_cons, List.length_nil, List.length_map, List.length_append, List.length_take, List.length_drop, List.length_replicate, List.length_set, mkG_len] <;> omega) | fail) only [push_cast, if_pos, decide_eq_true, decide_eq_false, h8, h64, e1, e2, wr_id, simprocAttr, -Nat.reduceSubDiff]))
  refine callC hs ?_
  (simp -dsimp (disch := first | omega | (simp only [ht, hM, List.length_cons, List.length_nil, List.length_map, List.length_append, List.length_take, List.length_drop, List.length_replicate, List.length_set, mkG_len] <;> omega) | fail) only [push_cast, if_pos, decide_eq_true, decide_eq_false, ht, hM, simprocAttr, -Nat.reduceSubDiff]) <;> (repeat (refine (aw_draw (by kernel_rfl)).2 ?_; simp -dsimp (disch := first | omega | (simp only [ht, hM, List.length_cons, List.length_nil, List.length_map, List.length_append, List.length_take, List.length_drop, List.length_replicate, List.length_set, mkG_len] <;> omega) | fail) only [push_cast, if_pos, decide_eq_true, decide_eq_false, ht, hM, simprocAttr, -Nat.reduceSubDiff]))
def E78 : Env := { T := T0, kp := look [(0, [0]), (1, [0]), (2, [0, 3]), (3, [3]), (4, [0, 3]), (5, [0, 3, 4]), (6, [0, 3, 4, 5]), (7, [0, 3, 4, 5]), (8, [0, 3, 4, 5]), (9, [0, 3, 4, 5]), (10, [0, 3, 5]), (11, [3])] }
attribute [local push_cast] E78
set_option maxRecDepth 20000 in
set_option maxHeartbeats 1000000 in
theorem specPieces (t : Str) (ht : t.size ≤ 100000000) : Does Tryz.prog 78 [.sc (.string t)] (.sl true 1 ((piecesL t).map strR), []) := by
  refine does_of (E := E78) (rs := [.tmp 2]) (lent := []) tOk rfl Tryz.func78 rfl (by decide) rfl rfl (Nat.le_of_ble_eq_true rfl) (Nat.le_of_ble_eq_true rfl) ?_
  obtain ⟨M, hM⟩ : ∃ M, M = piecesL t := ⟨_, rfl⟩
  rw [← hM]
  unfold piecesL at hM
  by_cases hbig : 3000 < t.size
  · rw [if_pos hbig] at hM
    subst hM
    (simp -dsimp (disch := first | omega | (simp only [hbig, List.length_cons, List.length_nil, List.length_map, List.length_append, List.length_take, List.length_drop, List.length_replicate, List.length_set, mkG_len] <;> omega) | fail) only [push_cast, if_pos, decide_eq_true, decide_eq_false, hbig, simprocAttr, -Nat.reduceSubDiff]) <;> (repeat (refine (aw_draw (by kernel_rfl)).2 ?_; simp -dsimp (disch := first | omega | (simp only [hbig, List.length_cons, List.length_nil, List.length_map, List.length_append, List.length_take, List.length_drop, List.length_replicate, List.length_set, mkG_len] <;> omega) | fail) only [push_cast, if_pos, decide_eq_true, decide_eq_false, hbig, simprocAttr, -Nat.reduceSubDiff]))
  rw [if_neg hbig] at hM
  (simp -dsimp (disch := first | omega | (simp only [hbig, List.length_cons, List.length_nil, List.length_map, List.length_append, List.length_take, List.length_drop, List.length_replicate, List.length_set, mkG_len] <;> omega) | fail) only [push_cast, if_pos, decide_eq_true, decide_eq_false, hbig, simprocAttr, -Nat.reduceSubDiff]) <;> (repeat (refine (aw_draw (by kernel_rfl)).2 ?_; simp -dsimp (disch := first | omega | (simp only [hbig, List.length_cons, List.length_nil, List.length_map, List.length_append, List.length_take, List.length_drop, List.length_replicate, List.length_set, mkG_len] <;> omega) | fail) only [push_cast, if_pos, decide_eq_true, decide_eq_false, hbig, simprocAttr, -Nat.reduceSubDiff]))
  refine loop_ind (α := Nat × Nat × List Str) (fun q => q.1 ≤ t.size ∧ q.2.1 ≤ q.1 ∧ (q.1 = t.size → q.2.1 = t.size) ∧ q.2.2.length ≤ q.1 ∧ q.2.2 ++ (pcF (curB t q.2.1 q.1) ((bt t).drop q.1)).map stB = M)
    (fun q => ⟨[(0, .sc (.string t)), (3, .ow 1 0 q.2.2.length), (4, .sc (.int .i64 q.2.1)), (5, .sc (.int .i64 (q.1 + 1)))], [(1, .ar 1 0 (q.2.2.map strR))], 2⟩) (fun q => t.size - q.1) (0, 0, []) ⟨Nat.zero_le _, Nat.le_refl _, fun e => e, Nat.le_refl _, by rw [cur_nil]; simp [hM]⟩ ?_ ?_
  · simp -dsimp (disch := first | omega | (simp only [List.length_cons, List.length_nil, List.length_map, List.length_append, List.length_take, List.length_drop, List.length_replicate, List.length_set, mkG_len] <;> omega) | fail) only [push_cast, if_pos, decide_eq_true, decide_eq_false, simprocAttr, -Nat.reduceSubDiff]
  rintro ⟨i, a, acc⟩ ⟨hi, ha, hl, hac, hy⟩ ih
  replace hi : i ≤ t.size := hi
  replace ha : a ≤ i := ha
  replace hl : i = t.size → a = t.size := hl
  replace hac : acc.length ≤ i := hac
  replace hy : acc ++ (pcF (curB t a i) ((bt t).drop i)).map stB = M := hy
  by_cases h : i < t.size
  · obtain ⟨x, hx⟩ := ex_get (by rw [bt_len]; exact h : i < (bt t).length)
    rw [drop_step hx] at hy
    have hst := cur_step hx ha
    have hsz := ext_size (s := t) (a := a) (b := i + 1) h
    have hc := l2Ends (t.extract a (i + 1)) (by omega)
    rw [bt_ext, hst] at hc
    have hex : t.extract a (i + 1) = stB (curB t a i ++ [x]) := by rw [ext_cur, hst]
    have e1 : ((i : Int) + 1).toNat = i + 1 := by omega
    have e2 : a + ((i : Int) + 1 - (a : Int)).toNat = i + 1 := by omega
    (simp -dsimp (disch := first | omega | (simp only [e1, e2, List.length_cons, List.length_nil, List.length_map, List.length_append, List.length_take, List.length_drop, List.length_replicate, List.length_set, mkG_len] <;> omega) | fail) only [push_cast, if_pos, decide_eq_true, decide_eq_false, e1, e2, simprocAttr, -Nat.reduceSubDiff]) <;> (repeat (refine (aw_draw (by kernel_rfl)).2 ?_; simp -dsimp (disch := first | omega | (simp only [e1, e2, List.length_cons, List.length_nil, List.length_map, List.length_append, List.length_take, List.length_drop, List.length_replicate, List.length_set, mkG_len] <;> omega) | fail) only [push_cast, if_pos, decide_eq_true, decide_eq_false, e1, e2, simprocAttr, -Nat.reduceSubDiff]))
    refine callC hc ?_
    cases hend : endsB (curB t a i ++ [x]) with
    | true =>
      rw [pc_yes hend] at hy
      (simp -dsimp (disch := first | omega | (simp only [e1, e2, List.length_cons, List.length_nil, List.length_map, List.length_append, List.length_take, List.length_drop, List.length_replicate, List.length_set, mkG_len] <;> omega) | fail) only [push_cast, if_pos, decide_eq_true, decide_eq_false, e1, e2, simprocAttr, -Nat.reduceSubDiff]) <;> (repeat (refine (aw_draw (by kernel_rfl)).2 ?_; simp -dsimp (disch := first | omega | (simp only [e1, e2, List.length_cons, List.length_nil, List.length_map, List.length_append, List.length_take, List.length_drop, List.length_replicate, List.length_set, mkG_len] <;> omega) | fail) only [push_cast, if_pos, decide_eq_true, decide_eq_false, e1, e2, simprocAttr, -Nat.reduceSubDiff]))
      refine ih (i + 1, i + 1, acc ++ [t.extract a (i + 1)]) _ (by show t.size - (i + 1) < t.size - i; omega) ⟨h, Nat.le_refl _, fun e => e, by simp only [List.length_append, List.length_cons, List.length_nil]; omega, by rw [← hy, cur_nil, hex]; simp⟩ ?_
      simp -dsimp (disch := first | omega | (simp only [wr_id, List.map_append, List.length_append, List.length_cons, List.length_nil, List.length_cons, List.length_nil, List.length_map, List.length_append, List.length_take, List.length_drop, List.length_replicate, List.length_set, mkG_len] <;> omega) | fail) only [push_cast, if_pos, decide_eq_true, decide_eq_false, wr_id, List.map_append, List.length_append, List.length_cons, List.length_nil, simprocAttr, -Nat.reduceSubDiff]
    | false =>
      by_cases hlast : i + 1 = t.size
      · have hd : (bt t).drop (i + 1) = [] := List.drop_eq_nil_of_le (by rw [bt_len]; omega)
        rw [hd, pc_last] at hy
        have hli : ((i : Int) + 1) = t.size := by omega
        (simp -dsimp (disch := first | omega | (simp only [e1, e2, hlast, List.length_cons, List.length_nil, List.length_map, List.length_append, List.length_take, List.length_drop, List.length_replicate, List.length_set, mkG_len] <;> omega) | fail) only [push_cast, if_pos, decide_eq_true, decide_eq_false, e1, e2, hlast, simprocAttr, -Nat.reduceSubDiff]) <;> (repeat (refine (aw_draw (by kernel_rfl)).2 ?_; simp -dsimp (disch := first | omega | (simp only [e1, e2, hlast, List.length_cons, List.length_nil, List.length_map, List.length_append, List.length_take, List.length_drop, List.length_replicate, List.length_set, mkG_len] <;> omega) | fail) only [push_cast, if_pos, decide_eq_true, decide_eq_false, e1, e2, hlast, simprocAttr, -Nat.reduceSubDiff]))
        refine ih (i + 1, i + 1, acc ++ [t.extract a (i + 1)]) _ (by show t.size - (i + 1) < t.size - i; omega) ⟨h, Nat.le_refl _, fun e => e, by simp only [List.length_append, List.length_cons, List.length_nil]; omega, by rw [← hy, cur_nil, hex, hd, pc_end _ rfl]; simp⟩ ?_
        simp -dsimp (disch := first | omega | (simp only [wr_id, List.map_append, List.length_append, List.length_cons, List.length_nil, hlast, hli, List.length_cons, List.length_nil, List.length_map, List.length_append, List.length_take, List.length_drop, List.length_replicate, List.length_set, mkG_len] <;> omega) | fail) only [push_cast, if_pos, decide_eq_true, decide_eq_false, wr_id, List.map_append, List.length_append, List.length_cons, List.length_nil, hlast, hli, simprocAttr, -Nat.reduceSubDiff]
      · rw [pc_no hend, ← hst] at hy
        have hli : ¬ ((i : Int) + 1) = t.size := by omega
        (simp -dsimp (disch := first | omega | (simp only [e1, e2, hli, List.length_cons, List.length_nil, List.length_map, List.length_append, List.length_take, List.length_drop, List.length_replicate, List.length_set, mkG_len] <;> omega) | fail) only [push_cast, if_pos, decide_eq_true, decide_eq_false, e1, e2, hli, simprocAttr, -Nat.reduceSubDiff]) <;> (repeat (refine (aw_draw (by kernel_rfl)).2 ?_; simp -dsimp (disch := first | omega | (simp only [e1, e2, hli, List.length_cons, List.length_nil, List.length_map, List.length_append, List.length_take, List.length_drop, List.length_replicate, List.length_set, mkG_len] <;> omega) | fail) only [push_cast, if_pos, decide_eq_true, decide_eq_false, e1, e2, hli, simprocAttr, -Nat.reduceSubDiff]))
        refine ih (i + 1, a, acc) _ (by show t.size - (i + 1) < t.size - i; omega) ⟨h, by show a ≤ i + 1; omega, fun e => (hlast e).elim, by show acc.length ≤ i + 1; omega, hy⟩ ?_
        simp -dsimp (disch := first | omega | (simp only [wr_id, List.length_cons, List.length_nil, List.length_map, List.length_append, List.length_take, List.length_drop, List.length_replicate, List.length_set, mkG_len] <;> omega) | fail) only [push_cast, if_pos, decide_eq_true, decide_eq_false, wr_id, simprocAttr, -Nat.reduceSubDiff]
  · have hi : i = t.size := by omega
    have hd : (bt t).drop i = [] := List.drop_eq_nil_of_le (by rw [bt_len]; omega)
    have haa := hl hi
    rw [hd, haa, hi, cur_nil, pc_end _ rfl] at hy
    have hy : acc = M := by simpa using hy
    subst hy
    (simp -dsimp (disch := first | omega | (simp only [hi, List.length_cons, List.length_nil, List.length_map, List.length_append, List.length_take, List.length_drop, List.length_replicate, List.length_set, mkG_len] <;> omega) | fail) only [push_cast, if_pos, decide_eq_true, decide_eq_false, hi, simprocAttr, -Nat.reduceSubDiff]) <;> (repeat (refine (aw_draw (by kernel_rfl)).2 ?_; simp -dsimp (disch := first | omega | (simp only [hi, List.length_cons, List.length_nil, List.length_map, List.length_append, List.length_take, List.length_drop, List.length_replicate, List.length_set, mkG_len] <;> omega) | fail) only [push_cast, if_pos, decide_eq_true, decide_eq_false, hi, simprocAttr, -Nat.reduceSubDiff]))
end Go.Proofs.YtgkncgiglmdnaaaGreatDoor.Mx

/- Pieces, descriptions and names: the program's; descriptions and names: the reference's. -/
namespace Go.Proofs.YtgkncgiglmdnaaaGreatDoor.Mx
set_option linter.all false
open Go Go.RowKit Go.Proofs
set_option linter.unusedSimpArgs false
def E21 : Env := { T := T0, kp := look [(0, [0]), (1, [0]), (2, []), (3, [0]), (4, [0, 3]), (5, [0, 3, 4]), (6, [0, 3, 4, 11, 12]), (7, [0, 3, 4, 11, 12]), (8, [0, 3, 4, 5, 11, 12]), (9, [0, 3, 4, 5, 6, 11, 12]), (10, [0, 3, 4, 5, 11, 12]), (11, [0, 3, 5, 11, 12]), (12, [0, 3, 4, 11, 12]), (13, [0, 3, 4]), (14, [0, 3, 4]), (15, [3])] }
attribute [local push_cast] E21
set_option maxRecDepth 20000 in
set_option maxHeartbeats 1000000 in
theorem implPieces (t : Str) (ht : t.size ≤ 100000000) : Does Tryz.prog 21 [.sc (.string t)] (.sl true 1 ((piecesL t).map strR), []) := by
  refine does_of (E := E21) (rs := [.tmp 2]) (lent := []) tOk rfl Tryz.func21 rfl (by decide) rfl rfl (Nat.le_of_ble_eq_true rfl) (Nat.le_of_ble_eq_true rfl) ?_
  obtain ⟨M, hM⟩ : ∃ M, M = piecesL t := ⟨_, rfl⟩
  rw [← hM]
  unfold piecesL at hM
  by_cases hbig : 3000 < t.size
  · rw [if_pos hbig] at hM
    subst hM
    (simp -dsimp (disch := first | omega | (simp only [hbig, List.length_cons, List.length_nil, List.length_map, List.length_append, List.length_take, List.length_drop, List.length_replicate, List.length_set, mkG_len] <;> omega) | fail) only [push_cast, if_pos, decide_eq_true, decide_eq_false, hbig, simprocAttr, -Nat.reduceSubDiff]) <;> (repeat (refine (aw_draw (by kernel_rfl)).2 ?_; simp -dsimp (disch := first | omega | (simp only [hbig, List.length_cons, List.length_nil, List.length_map, List.length_append, List.length_take, List.length_drop, List.length_replicate, List.length_set, mkG_len] <;> omega) | fail) only [push_cast, if_pos, decide_eq_true, decide_eq_false, hbig, simprocAttr, -Nat.reduceSubDiff]))
  rw [if_neg hbig] at hM
  (simp -dsimp (disch := first | omega | (simp only [hbig, List.length_cons, List.length_nil, List.length_map, List.length_append, List.length_take, List.length_drop, List.length_replicate, List.length_set, mkG_len] <;> omega) | fail) only [push_cast, if_pos, decide_eq_true, decide_eq_false, hbig, simprocAttr, -Nat.reduceSubDiff]) <;> (repeat (refine (aw_draw (by kernel_rfl)).2 ?_; simp -dsimp (disch := first | omega | (simp only [hbig, List.length_cons, List.length_nil, List.length_map, List.length_append, List.length_take, List.length_drop, List.length_replicate, List.length_set, mkG_len] <;> omega) | fail) only [push_cast, if_pos, decide_eq_true, decide_eq_false, hbig, simprocAttr, -Nat.reduceSubDiff]))
  refine loop_ind (α := Nat × Nat × List Str) (fun q => q.1 ≤ t.size ∧ q.2.1 ≤ q.1 ∧ q.1 ≤ q.2.1 + 63 ∧ q.2.2.length ≤ q.1 ∧ q.2.2 ++ (pcF (curB t q.2.1 q.1) ((bt t).drop q.1)).map stB = M)
    (fun q => ⟨[(0, .sc (.string t)), (3, .ow 1 0 q.2.2.length), (4, .sc (.int .i64 q.2.1)), (11, .sc (.int .i64 t.size)), (12, .sc (.int .i64 q.1))], [(1, .ar 1 0 (q.2.2.map strR))], 2⟩) (fun q => t.size - q.1) (0, 0, []) ⟨Nat.zero_le _, Nat.le_refl _, by simp only; omega, Nat.le_refl _, by rw [cur_nil]; simp [hM]⟩ ?_ ?_
  · simp -dsimp (disch := first | omega | (simp only [List.length_cons, List.length_nil, List.length_map, List.length_append, List.length_take, List.length_drop, List.length_replicate, List.length_set, mkG_len] <;> omega) | fail) only [push_cast, if_pos, decide_eq_true, decide_eq_false, simprocAttr, -Nat.reduceSubDiff]
  rintro ⟨i, a, acc⟩ ⟨hi, ha, hl, hac, hy⟩ ih
  replace hi : i ≤ t.size := hi
  replace ha : a ≤ i := ha
  replace hl : i ≤ a + 63 := hl
  replace hac : acc.length ≤ i := hac
  replace hy : acc ++ (pcF (curB t a i) ((bt t).drop i)).map stB = M := hy
  by_cases h : i < t.size
  · obtain ⟨x, hx⟩ := ex_get (by rw [bt_len]; exact h : i < (bt t).length)
    rw [drop_step hx] at hy
    have hst := cur_step hx ha
    have hex : t.extract a (i + 1) = stB (curB t a i ++ [x]) := by rw [ext_cur, hst]
    have hen := ends_ext (s := t) (a := a) (i := i + 1) h (by omega)
    rw [hst] at hen
    have e1 : ((i : Int) + 1).toNat = i + 1 := by omega
    have e2 : a + ((i : Int) + 1 - (a : Int)).toNat = i + 1 := by omega
    by_cases h64 : i + 1 - a = 64
    · have hend : endsB (curB t a i ++ [x]) = true := by rw [hen]; simp [h64]
      rw [pc_yes hend] at hy
      have n64 : (i : Int) + 1 - (a : Int) = 64 := by omega
      have e5 : a + 64 = i + 1 := by omega
      (simp -dsimp (disch := first | omega | (simp only [e1, e2, n64, e5, wr_id, List.length_cons, List.length_nil, List.length_map, List.length_append, List.length_take, List.length_drop, List.length_replicate, List.length_set, mkG_len] <;> omega) | fail) only [push_cast, if_pos, decide_eq_true, decide_eq_false, e1, e2, n64, e5, wr_id, simprocAttr, -Nat.reduceSubDiff]) <;> (repeat (refine (aw_draw (by kernel_rfl)).2 ?_; simp -dsimp (disch := first | omega | (simp only [e1, e2, n64, e5, wr_id, List.length_cons, List.length_nil, List.length_map, List.length_append, List.length_take, List.length_drop, List.length_replicate, List.length_set, mkG_len] <;> omega) | fail) only [push_cast, if_pos, decide_eq_true, decide_eq_false, e1, e2, n64, e5, wr_id, simprocAttr, -Nat.reduceSubDiff]))
      refine ih (i + 1, i + 1, acc ++ [t.extract a (i + 1)]) _ (by show t.size - (i + 1) < t.size - i; omega) ⟨h, Nat.le_refl _, by show i + 1 ≤ i + 1 + 63; omega, by simp only [List.length_append, List.length_cons, List.length_nil]; omega, by rw [← hy, cur_nil, hex]; simp⟩ ?_
      simp -dsimp (disch := first | omega | (simp only [wr_id, List.map_append, List.length_append, List.length_cons, List.length_nil, List.length_cons, List.length_nil, List.length_map, List.length_append, List.length_take, List.length_drop, List.length_replicate, List.length_set, mkG_len] <;> omega) | fail) only [push_cast, if_pos, decide_eq_true, decide_eq_false, wr_id, List.map_append, List.length_append, List.length_cons, List.length_nil, simprocAttr, -Nat.reduceSubDiff]
    have n64 : ¬ (i : Int) + 1 - (a : Int) = 64 := by omega
    by_cases h8 : 8 ≤ i + 1 - a
    rotate_left
    · have hend : endsB (curB t a i ++ [x]) = false := by rw [hen]; simp; intro hc; omega
      rw [pc_no hend, ← hst] at hy
      have n8 : ¬ (8 : Int) ≤ (i : Int) + 1 - (a : Int) := by omega
      (simp -dsimp (disch := first | omega | (simp only [e1, e2, n64, n8, wr_id, List.length_cons, List.length_nil, List.length_map, List.length_append, List.length_take, List.length_drop, List.length_replicate, List.length_set, mkG_len] <;> omega) | fail) only [push_cast, if_pos, decide_eq_true, decide_eq_false, e1, e2, n64, n8, wr_id, simprocAttr, -Nat.reduceSubDiff]) <;> (repeat (refine (aw_draw (by kernel_rfl)).2 ?_; simp -dsimp (disch := first | omega | (simp only [e1, e2, n64, n8, wr_id, List.length_cons, List.length_nil, List.length_map, List.length_append, List.length_take, List.length_drop, List.length_replicate, List.length_set, mkG_len] <;> omega) | fail) only [push_cast, if_pos, decide_eq_true, decide_eq_false, e1, e2, n64, n8, wr_id, simprocAttr, -Nat.reduceSubDiff]))
      refine ih (i + 1, a, acc) _ (by show t.size - (i + 1) < t.size - i; omega) ⟨h, by show a ≤ i + 1; omega, by show i + 1 ≤ a + 63; omega, by show acc.length ≤ i + 1; omega, hy⟩ ?_
      simp -dsimp (disch := first | omega | (simp only [wr_id, List.length_cons, List.length_nil, List.length_map, List.length_append, List.length_take, List.length_drop, List.length_replicate, List.length_set, mkG_len] <;> omega) | fail) only [push_cast, if_pos, decide_eq_true, decide_eq_false, wr_id, simprocAttr, -Nat.reduceSubDiff]
    have n8 : (8 : Int) ≤ (i : Int) + 1 - (a : Int) := by omega
    have e3 : ((i : Int) + 1 - 8).toNat = i + 1 - 8 := by omega
    have e4 : i + 1 - 8 + ((i : Int) + 1 - ((i : Int) + 1 - 8)).toNat = i + 1 := by omega
    have hz := ext_size (s := t) (a := i + 1 - 8) (b := i + 1) h
    have hs := sum64 (t.extract (i + 1 - 8) (i + 1)) (by omega)
    have hr := hash64_r (bt (t.extract (i + 1 - 8) (i + 1)))
    have htm := sixteen _ hr.1
    generalize hash64 (bt (t.extract (i + 1 - 8) (i + 1))) = H at *
    have hn64 : ¬ 64 ≤ i + 1 - a := by omega
    by_cases hH : H % 16 = 0
    · have hend : endsB (curB t a i ++ [x]) = true := by rw [hen]; simp [h8, hH]
      rw [pc_yes hend] at hy
      (simp -dsimp (disch := first | omega | (simp only [e1, e2, e3, e4, n64, n8, wr_id, List.length_cons, List.length_nil, List.length_map, List.length_append, List.length_take, List.length_drop, List.length_replicate, List.length_set, mkG_len] <;> omega) | fail) only [push_cast, if_pos, decide_eq_true, decide_eq_false, e1, e2, e3, e4, n64, n8, wr_id, simprocAttr, -Nat.reduceSubDiff]) <;> (repeat (refine (aw_draw (by kernel_rfl)).2 ?_; simp -dsimp (disch := first | omega | (simp only [e1, e2, e3, e4, n64, n8, wr_id, List.length_cons, List.length_nil, List.length_map, List.length_append, List.length_take, List.length_drop, List.length_replicate, List.length_set, mkG_len] <;> omega) | fail) only [push_cast, if_pos, decide_eq_true, decide_eq_false, e1, e2, e3, e4, n64, n8, wr_id, simprocAttr, -Nat.reduceSubDiff]))
      refine callC hs ?_
      (simp -dsimp (disch := first | omega | (simp only [htm, hH, e1, e2, wr_id, List.length_cons, List.length_nil, List.length_map, List.length_append, List.length_take, List.length_drop, List.length_replicate, List.length_set, mkG_len] <;> omega) | fail) only [push_cast, if_pos, decide_eq_true, decide_eq_false, htm, hH, e1, e2, wr_id, simprocAttr, -Nat.reduceSubDiff]) <;> (repeat (refine (aw_draw (by kernel_rfl)).2 ?_; simp -dsimp (disch := first | omega | (simp only [htm, hH, e1, e2, wr_id, List.length_cons, List.length_nil, List.length_map, List.length_append, List.length_take, List.length_drop, List.length_replicate, List.length_set, mkG_len] <;> omega) | fail) only [push_cast, if_pos, decide_eq_true, decide_eq_false, htm, hH, e1, e2, wr_id, simprocAttr, -Nat.reduceSubDiff]))
      refine ih (i + 1, i + 1, acc ++ [t.extract a (i + 1)]) _ (by show t.size - (i + 1) < t.size - i; omega) ⟨h, Nat.le_refl _, by show i + 1 ≤ i + 1 + 63; omega, by simp only [List.length_append, List.length_cons, List.length_nil]; omega, by rw [← hy, cur_nil, hex]; simp⟩ ?_
      simp -dsimp (disch := first | omega | (simp only [wr_id, List.map_append, List.length_append, List.length_cons, List.length_nil, List.length_cons, List.length_nil, List.length_map, List.length_append, List.length_take, List.length_drop, List.length_replicate, List.length_set, mkG_len] <;> omega) | fail) only [push_cast, if_pos, decide_eq_true, decide_eq_false, wr_id, List.map_append, List.length_append, List.length_cons, List.length_nil, simprocAttr, -Nat.reduceSubDiff]
    · have hend : endsB (curB t a i ++ [x]) = false := by rw [hen]; simp [hn64, hH]
      rw [pc_no hend, ← hst] at hy
      (simp -dsimp (disch := first | omega | (simp only [e1, e2, e3, e4, n64, n8, wr_id, List.length_cons, List.length_nil, List.length_map, List.length_append, List.length_take, List.length_drop, List.length_replicate, List.length_set, mkG_len] <;> omega) | fail) only [push_cast, if_pos, decide_eq_true, decide_eq_false, e1, e2, e3, e4, n64, n8, wr_id, simprocAttr, -Nat.reduceSubDiff]) <;> (repeat (refine (aw_draw (by kernel_rfl)).2 ?_; simp -dsimp (disch := first | omega | (simp only [e1, e2, e3, e4, n64, n8, wr_id, List.length_cons, List.length_nil, List.length_map, List.length_append, List.length_take, List.length_drop, List.length_replicate, List.length_set, mkG_len] <;> omega) | fail) only [push_cast, if_pos, decide_eq_true, decide_eq_false, e1, e2, e3, e4, n64, n8, wr_id, simprocAttr, -Nat.reduceSubDiff]))
      refine callC hs ?_
      (simp -dsimp (disch := first | omega | (simp only [htm, hH, List.length_cons, List.length_nil, List.length_map, List.length_append, List.length_take, List.length_drop, List.length_replicate, List.length_set, mkG_len] <;> omega) | fail) only [push_cast, if_pos, decide_eq_true, decide_eq_false, htm, hH, simprocAttr, -Nat.reduceSubDiff]) <;> (repeat (refine (aw_draw (by kernel_rfl)).2 ?_; simp -dsimp (disch := first | omega | (simp only [htm, hH, List.length_cons, List.length_nil, List.length_map, List.length_append, List.length_take, List.length_drop, List.length_replicate, List.length_set, mkG_len] <;> omega) | fail) only [push_cast, if_pos, decide_eq_true, decide_eq_false, htm, hH, simprocAttr, -Nat.reduceSubDiff]))
      refine ih (i + 1, a, acc) _ (by show t.size - (i + 1) < t.size - i; omega) ⟨h, by show a ≤ i + 1; omega, by show i + 1 ≤ a + 63; omega, by show acc.length ≤ i + 1; omega, hy⟩ ?_
      simp -dsimp (disch := first | omega | (simp only [wr_id, List.length_cons, List.length_nil, List.length_map, List.length_append, List.length_take, List.length_drop, List.length_replicate, List.length_set, mkG_len] <;> omega) | fail) only [push_cast, if_pos, decide_eq_true, decide_eq_false, wr_id, simprocAttr, -Nat.reduceSubDiff]
  · have hi : i = t.size := by omega
    have hd : (bt t).drop i = [] := List.drop_eq_nil_of_le (by rw [bt_len]; omega)
    have hcl := cur_len (s := t) (a := a) (i := i) (by omega)
    rw [hd] at hy
    by_cases hai : a < t.size
    · have hne : ¬ curB t a i = [] := fun e => by rw [e] at hcl; simp at hcl; omega
      rw [pcF, if_neg hne] at hy
      have hex : t.extract a t.size = stB (curB t a i) := by rw [ext_cur, hi]
      have hy : acc.map strR ++ [[.sc (.string (t.extract a t.size))]] = M.map strR := by rw [← hy, hex]; simp [strR]
      have e2 : a + ((t.size : Int) - (a : Int)).toNat = t.size := by omega
      (simp -dsimp (disch := first | omega | (simp only [hi, hai, List.length_cons, List.length_nil, List.length_map, List.length_append, List.length_take, List.length_drop, List.length_replicate, List.length_set, mkG_len] <;> omega) | fail) only [push_cast, if_pos, decide_eq_true, decide_eq_false, hi, hai, simprocAttr, -Nat.reduceSubDiff]) <;> (repeat (refine (aw_draw (by kernel_rfl)).2 ?_; simp -dsimp (disch := first | omega | (simp only [hi, hai, List.length_cons, List.length_nil, List.length_map, List.length_append, List.length_take, List.length_drop, List.length_replicate, List.length_set, mkG_len] <;> omega) | fail) only [push_cast, if_pos, decide_eq_true, decide_eq_false, hi, hai, simprocAttr, -Nat.reduceSubDiff]))
      rw [e2, hy]
    · have he : curB t a i = [] := List.length_eq_zero_iff.1 (by rw [hcl]; omega)
      rw [pc_end _ he] at hy
      have hy : acc = M := by simpa using hy
      subst hy
      (simp -dsimp (disch := first | omega | (simp only [hi, hai, List.length_cons, List.length_nil, List.length_map, List.length_append, List.length_take, List.length_drop, List.length_replicate, List.length_set, mkG_len] <;> omega) | fail) only [push_cast, if_pos, decide_eq_true, decide_eq_false, hi, hai, simprocAttr, -Nat.reduceSubDiff]) <;> (repeat (refine (aw_draw (by kernel_rfl)).2 ?_; simp -dsimp (disch := first | omega | (simp only [hi, hai, List.length_cons, List.length_nil, List.length_map, List.length_append, List.length_take, List.length_drop, List.length_replicate, List.length_set, mkG_len] <;> omega) | fail) only [push_cast, if_pos, decide_eq_true, decide_eq_false, hi, hai, simprocAttr, -Nat.reduceSubDiff]))
def E72 : Env := { T := T0, kp := look [(0, [0, 1]), (1, [0, 1, 4]), (2, [4]), (3, [0, 1, 4]), (4, [0, 1, 4, 6]), (5, [1, 4, 6, 22, 23, 24]), (6, [1, 4, 6, 22, 23, 24]), (7, [1, 4, 6, 8, 22, 23, 24]), (8, [1, 4, 6, 22, 23, 24]), (9, [4, 6])], dp := look2 [(7, [[], [0], [], [], [2, 3], [2, 3, 4], [0, 1, 2, 3, 4, 5], [0, 1, 2, 3, 4, 5, 6], [0, 1, 2, 3, 4, 5, 6, 7]])] }
attribute [local push_cast] E72
set_option maxRecDepth 20000 in
set_option maxHeartbeats 1000000 in
theorem implDescribe0 (t : Str) (w : Int) (ht : t.size ≤ 100000000) : Does Tryz.prog 72 [.sc (.string t), .sc (.int .i64 w)] (.tu [.ag (lstC true (descL t w).1), .sc (.bool (descL t w).2)], []) := by
  refine does_of (E := E72) (rs := [.cell 4 27, .tmp 5]) (lent := []) tOk rfl Tryz.func72 rfl (by decide) rfl rfl (Nat.le_of_ble_eq_true rfl) (Nat.le_of_ble_eq_true rfl) ?_
  obtain ⟨M, hM⟩ : ∃ M, M = descL t w := ⟨_, rfl⟩
  rw [← hM]
  unfold descL at hM
  by_cases hbig : 3000 < t.size
  · rw [if_pos (.inl hbig)] at hM
    subst hM
    (simp -dsimp (disch := first | omega | (simp only [hbig, emL, List.length_cons, List.length_nil, List.length_map, List.length_append, List.length_take, List.length_drop, List.length_replicate, List.length_set, mkG_len] <;> omega) | fail) only [push_cast, if_pos, decide_eq_true, decide_eq_false, hbig, emL, simprocAttr, -Nat.reduceSubDiff]) <;> (repeat (refine (aw_draw (by kernel_rfl)).2 ?_; simp -dsimp (disch := first | omega | (simp only [hbig, emL, List.length_cons, List.length_nil, List.length_map, List.length_append, List.length_take, List.length_drop, List.length_replicate, List.length_set, mkG_len] <;> omega) | fail) only [push_cast, if_pos, decide_eq_true, decide_eq_false, hbig, emL, simprocAttr, -Nat.reduceSubDiff]))
  (simp -dsimp (disch := first | omega | (simp only [hbig, List.length_cons, List.length_nil, List.length_map, List.length_append, List.length_take, List.length_drop, List.length_replicate, List.length_set, mkG_len] <;> omega) | fail) only [push_cast, if_pos, decide_eq_true, decide_eq_false, hbig, simprocAttr, -Nat.reduceSubDiff]) <;> (repeat (refine (aw_draw (by kernel_rfl)).2 ?_; simp -dsimp (disch := first | omega | (simp only [hbig, List.length_cons, List.length_nil, List.length_map, List.length_append, List.length_take, List.length_drop, List.length_replicate, List.length_set, mkG_len] <;> omega) | fail) only [push_cast, if_pos, decide_eq_true, decide_eq_false, hbig, simprocAttr, -Nat.reduceSubDiff]))
  refine callC (widthOk w) ?_
  cases hw : inB w 1 8 with
  | false =>
    rw [if_pos (.inr hw)] at hM
    subst hM
    (simp -dsimp (disch := first | omega | (simp only [emL, List.length_cons, List.length_nil, List.length_map, List.length_append, List.length_take, List.length_drop, List.length_replicate, List.length_set, mkG_len] <;> omega) | fail) only [push_cast, if_pos, decide_eq_true, decide_eq_false, emL, simprocAttr, -Nat.reduceSubDiff]) <;> (repeat (refine (aw_draw (by kernel_rfl)).2 ?_; simp -dsimp (disch := first | omega | (simp only [emL, List.length_cons, List.length_nil, List.length_map, List.length_append, List.length_take, List.length_drop, List.length_replicate, List.length_set, mkG_len] <;> omega) | fail) only [push_cast, if_pos, decide_eq_true, decide_eq_false, emL, simprocAttr, -Nat.reduceSubDiff]))
  | true =>
  rw [if_neg (by rintro (q | q); exact hbig q; rw [hw] at q; cases q)] at hM
  subst hM
  (simp -dsimp (disch := first | omega | (simp only [List.length_cons, List.length_nil, List.length_map, List.length_append, List.length_take, List.length_drop, List.length_replicate, List.length_set, mkG_len] <;> omega) | fail) only [push_cast, if_pos, decide_eq_true, decide_eq_false, simprocAttr, -Nat.reduceSubDiff]) <;> (repeat (refine (aw_draw (by kernel_rfl)).2 ?_; simp -dsimp (disch := first | omega | (simp only [List.length_cons, List.length_nil, List.length_map, List.length_append, List.length_take, List.length_drop, List.length_replicate, List.length_set, mkG_len] <;> omega) | fail) only [push_cast, if_pos, decide_eq_true, decide_eq_false, simprocAttr, -Nat.reduceSubDiff]))
  refine callC (implPieces t ht) ?_
  have hpl := pieces_len t
  have hps := fun p (hp : p ∈ piecesL t) => pieces_sz hp
  generalize piecesL t = P at *
  (simp -dsimp (disch := first | omega | (simp only [List.length_cons, List.length_nil, List.length_map, List.length_append, List.length_take, List.length_drop, List.length_replicate, List.length_set, mkG_len] <;> omega) | fail) only [push_cast, if_pos, decide_eq_true, decide_eq_false, simprocAttr, -Nat.reduceSubDiff]) <;> (repeat (refine (aw_draw (by kernel_rfl)).2 ?_; simp -dsimp (disch := first | omega | (simp only [List.length_cons, List.length_nil, List.length_map, List.length_append, List.length_take, List.length_drop, List.length_replicate, List.length_set, mkG_len] <;> omega) | fail) only [push_cast, if_pos, decide_eq_true, decide_eq_false, simprocAttr, -Nat.reduceSubDiff]))
  refine loop_ind (α := Nat) (fun i => i ≤ P.length)
    (fun i => ⟨[(1, .sc (.int .i64 w)), (4, .pt 1 0 0), (6, .pt 3 0 0), (22, .ow 5 0 P.length), (23, .sc (.int .i64 P.length)), (24, .sc (.int .i64 i))],
      [(1, .bx [.sc (.int .i64 0), .ow 2 0 0]), (2, .ar 1 0 []), (3, .bx [.sc (.int .i64 t.size), .ow 4 0 ((P.take i).map fun p => sumS p w).length]), (4, .ar 1 0 (((P.take i).map fun p => sumS p w).map strR)), (5, .ar 1 0 (P.map strR))], 6⟩) (fun i => P.length - i) 0 (Nat.zero_le _) ?_ ?_
  · simp -dsimp (disch := first | omega | (simp only [List.take_zero, List.map_nil, List.length_cons, List.length_nil, List.length_map, List.length_append, List.length_take, List.length_drop, List.length_replicate, List.length_set, mkG_len] <;> omega) | fail) only [push_cast, if_pos, decide_eq_true, decide_eq_false, List.take_zero, List.map_nil, simprocAttr, -Nat.reduceSubDiff]
  intro i hi ih
  have hil : ((P.take i).map fun p => sumS p w).length = i := by rw [List.length_map, List.length_take]; omega
  by_cases h : i < P.length
  · obtain ⟨x, hx⟩ := ex_get h
    have hxs := hps x (List.mem_of_getElem? hx)
    have hst : ((P.take (i + 1)).map fun p => sumS p w) = ((P.take i).map fun p => sumS p w) ++ [sumS x w] := by rw [take_step hx, List.map_append]; rfl
    (simp -dsimp (disch := first | omega | (simp only [hx, List.length_cons, List.length_nil, List.length_map, List.length_append, List.length_take, List.length_drop, List.length_replicate, List.length_set, mkG_len] <;> omega) | fail) only [push_cast, if_pos, decide_eq_true, decide_eq_false, hx, simprocAttr, -Nat.reduceSubDiff]) <;> (repeat (refine (aw_draw (by kernel_rfl)).2 ?_; simp -dsimp (disch := first | omega | (simp only [hx, List.length_cons, List.length_nil, List.length_map, List.length_append, List.length_take, List.length_drop, List.length_replicate, List.length_set, mkG_len] <;> omega) | fail) only [push_cast, if_pos, decide_eq_true, decide_eq_false, hx, simprocAttr, -Nat.reduceSubDiff]))
    refine callC (implSum x w (by omega)) ?_
    (simp -dsimp (disch := first | omega | (simp only [hx, List.length_cons, List.length_nil, List.length_map, List.length_append, List.length_take, List.length_drop, List.length_replicate, List.length_set, mkG_len] <;> omega) | fail) only [push_cast, if_pos, decide_eq_true, decide_eq_false, hx, simprocAttr, -Nat.reduceSubDiff]) <;> (repeat (refine (aw_draw (by kernel_rfl)).2 ?_; simp -dsimp (disch := first | omega | (simp only [hx, List.length_cons, List.length_nil, List.length_map, List.length_append, List.length_take, List.length_drop, List.length_replicate, List.length_set, mkG_len] <;> omega) | fail) only [push_cast, if_pos, decide_eq_true, decide_eq_false, hx, simprocAttr, -Nat.reduceSubDiff]))
    refine ih (i + 1) _ (by omega) h ?_
    rw [hst]
    simp -dsimp (disch := first | omega | (simp only [wr_id, List.map_append, List.length_append, List.length_cons, List.length_nil, List.map_cons, List.map_nil, List.length_cons, List.length_nil, List.length_map, List.length_append, List.length_take, List.length_drop, List.length_replicate, List.length_set, mkG_len] <;> omega) | fail) only [push_cast, if_pos, decide_eq_true, decide_eq_false, wr_id, List.map_append, List.length_append, List.length_cons, List.length_nil, List.map_cons, List.map_nil, simprocAttr, -Nat.reduceSubDiff]
  · have hi : i = P.length := by omega
    subst hi
    rw [List.take_length] at hil ⊢
    (simp -dsimp (disch := first | omega | (simp only [List.length_map, List.length_cons, List.length_nil, List.length_map, List.length_append, List.length_take, List.length_drop, List.length_replicate, List.length_set, mkG_len] <;> omega) | fail) only [push_cast, if_pos, decide_eq_true, decide_eq_false, List.length_map, simprocAttr, -Nat.reduceSubDiff]) <;> (repeat (refine (aw_draw (by kernel_rfl)).2 ?_; simp -dsimp (disch := first | omega | (simp only [List.length_map, List.length_cons, List.length_nil, List.length_map, List.length_append, List.length_take, List.length_drop, List.length_replicate, List.length_set, mkG_len] <;> omega) | fail) only [push_cast, if_pos, decide_eq_true, decide_eq_false, List.length_map, simprocAttr, -Nat.reduceSubDiff]))
def E17 : Env := { T := T0, kp := look [(0, [0, 1]), (1, [0, 1, 4]), (2, [4]), (3, [0, 1, 4]), (4, [0, 1, 4, 5]), (5, [1, 4, 5, 6]), (6, [1, 4, 5, 6, 7]), (7, [1, 4, 5, 6, 7]), (8, [1, 4, 5, 6, 7]), (9, [4, 5])], dp := look2 [(8, [[], [0], [], [], [2, 3], [2, 3, 4], [], [2, 3, 4, 5, 6], [2, 3, 4, 5, 6, 7], [0, 1, 2, 3, 4, 5, 6, 7, 8], [0, 1, 2, 3, 4, 5, 6, 7, 8, 9], [0, 1, 2, 3, 4, 5, 6, 7, 8, 9, 10]])] }
attribute [local push_cast] E17
set_option maxRecDepth 20000 in
set_option maxHeartbeats 1000000 in
theorem specDescribe (t : Str) (w : Int) (ht : t.size ≤ 100000000) : Does Tryz.prog 17 [.sc (.string t), .sc (.int .i64 w)] (.ag (lstC true (descL t w).1), []) := by
  refine does_of (E := E17) (rs := [.cell 4 27]) (lent := []) tOk rfl Tryz.func17 rfl (by decide) rfl rfl (Nat.le_of_ble_eq_true rfl) (Nat.le_of_ble_eq_true rfl) ?_
  obtain ⟨M, hM⟩ : ∃ M, M = descL t w := ⟨_, rfl⟩
  rw [← hM]
  unfold descL at hM
  (simp -dsimp (disch := first | omega | (simp only [List.length_cons, List.length_nil, List.length_map, List.length_append, List.length_take, List.length_drop, List.length_replicate, List.length_set, mkG_len] <;> omega) | fail) only [push_cast, if_pos, decide_eq_true, decide_eq_false, simprocAttr, -Nat.reduceSubDiff]) <;> (repeat (refine (aw_draw (by kernel_rfl)).2 ?_; simp -dsimp (disch := first | omega | (simp only [List.length_cons, List.length_nil, List.length_map, List.length_append, List.length_take, List.length_drop, List.length_replicate, List.length_set, mkG_len] <;> omega) | fail) only [push_cast, if_pos, decide_eq_true, decide_eq_false, simprocAttr, -Nat.reduceSubDiff]))
  refine callC (l1Width w) ?_
  cases hw : inB w 1 8 with
  | false =>
    rw [if_pos (.inr hw)] at hM
    subst hM
    (simp -dsimp (disch := first | omega | (simp only [emL, List.length_cons, List.length_nil, List.length_map, List.length_append, List.length_take, List.length_drop, List.length_replicate, List.length_set, mkG_len] <;> omega) | fail) only [push_cast, if_pos, decide_eq_true, decide_eq_false, emL, simprocAttr, -Nat.reduceSubDiff]) <;> (repeat (refine (aw_draw (by kernel_rfl)).2 ?_; simp -dsimp (disch := first | omega | (simp only [emL, List.length_cons, List.length_nil, List.length_map, List.length_append, List.length_take, List.length_drop, List.length_replicate, List.length_set, mkG_len] <;> omega) | fail) only [push_cast, if_pos, decide_eq_true, decide_eq_false, emL, simprocAttr, -Nat.reduceSubDiff]))
  | true =>
  by_cases hbig : 3000 < t.size
  · rw [if_pos (.inl hbig)] at hM
    subst hM
    (simp -dsimp (disch := first | omega | (simp only [hbig, emL, List.length_cons, List.length_nil, List.length_map, List.length_append, List.length_take, List.length_drop, List.length_replicate, List.length_set, mkG_len] <;> omega) | fail) only [push_cast, if_pos, decide_eq_true, decide_eq_false, hbig, emL, simprocAttr, -Nat.reduceSubDiff]) <;> (repeat (refine (aw_draw (by kernel_rfl)).2 ?_; simp -dsimp (disch := first | omega | (simp only [hbig, emL, List.length_cons, List.length_nil, List.length_map, List.length_append, List.length_take, List.length_drop, List.length_replicate, List.length_set, mkG_len] <;> omega) | fail) only [push_cast, if_pos, decide_eq_true, decide_eq_false, hbig, emL, simprocAttr, -Nat.reduceSubDiff]))
  rw [if_neg (by rintro (q | q); exact hbig q; rw [hw] at q; cases q)] at hM
  subst hM
  (simp -dsimp (disch := first | omega | (simp only [hbig, List.length_cons, List.length_nil, List.length_map, List.length_append, List.length_take, List.length_drop, List.length_replicate, List.length_set, mkG_len] <;> omega) | fail) only [push_cast, if_pos, decide_eq_true, decide_eq_false, hbig, simprocAttr, -Nat.reduceSubDiff]) <;> (repeat (refine (aw_draw (by kernel_rfl)).2 ?_; simp -dsimp (disch := first | omega | (simp only [hbig, List.length_cons, List.length_nil, List.length_map, List.length_append, List.length_take, List.length_drop, List.length_replicate, List.length_set, mkG_len] <;> omega) | fail) only [push_cast, if_pos, decide_eq_true, decide_eq_false, hbig, simprocAttr, -Nat.reduceSubDiff]))
  refine callC (specPieces t ht) ?_
  have hpl := pieces_len t
  have hps := fun p (hp : p ∈ piecesL t) => pieces_sz hp
  generalize piecesL t = P at *
  (simp -dsimp (disch := first | omega | (simp only [List.length_cons, List.length_nil, List.length_map, List.length_append, List.length_take, List.length_drop, List.length_replicate, List.length_set, mkG_len] <;> omega) | fail) only [push_cast, if_pos, decide_eq_true, decide_eq_false, simprocAttr, -Nat.reduceSubDiff]) <;> (repeat (refine (aw_draw (by kernel_rfl)).2 ?_; simp -dsimp (disch := first | omega | (simp only [List.length_cons, List.length_nil, List.length_map, List.length_append, List.length_take, List.length_drop, List.length_replicate, List.length_set, mkG_len] <;> omega) | fail) only [push_cast, if_pos, decide_eq_true, decide_eq_false, simprocAttr, -Nat.reduceSubDiff]))
  refine loop_ind (α := Nat) (fun i => i ≤ P.length)
    (fun i => ⟨[(1, .sc (.int .i64 w)), (4, .pt 1 0 0), (5, .pt 3 0 0), (6, .ow 5 0 P.length), (7, .sc (.int .i64 i))],
      [(1, .bx [.sc (.int .i64 0), .ow 2 0 0]), (2, .ar 1 0 []), (3, .bx [.sc (.int .i64 t.size), .ow 4 0 ((P.take i).map fun p => sumS p w).length]), (4, .ar 1 0 (((P.take i).map fun p => sumS p w).map strR)), (5, .ar 1 0 (P.map strR))], 6⟩) (fun i => P.length - i) 0 (Nat.zero_le _) ?_ ?_
  · simp -dsimp (disch := first | omega | (simp only [List.take_zero, List.map_nil, List.length_cons, List.length_nil, List.length_map, List.length_append, List.length_take, List.length_drop, List.length_replicate, List.length_set, mkG_len] <;> omega) | fail) only [push_cast, if_pos, decide_eq_true, decide_eq_false, List.take_zero, List.map_nil, simprocAttr, -Nat.reduceSubDiff]
  intro i hi ih
  have hil : ((P.take i).map fun p => sumS p w).length = i := by rw [List.length_map, List.length_take]; omega
  by_cases h : i < P.length
  · obtain ⟨x, hx⟩ := ex_get h
    have hxs := hps x (List.mem_of_getElem? hx)
    have hst : ((P.take (i + 1)).map fun p => sumS p w) = ((P.take i).map fun p => sumS p w) ++ [sumS x w] := by rw [take_step hx, List.map_append]; rfl
    (simp -dsimp (disch := first | omega | (simp only [hx, List.length_cons, List.length_nil, List.length_map, List.length_append, List.length_take, List.length_drop, List.length_replicate, List.length_set, mkG_len] <;> omega) | fail) only [push_cast, if_pos, decide_eq_true, decide_eq_false, hx, simprocAttr, -Nat.reduceSubDiff]) <;> (repeat (refine (aw_draw (by kernel_rfl)).2 ?_; simp -dsimp (disch := first | omega | (simp only [hx, List.length_cons, List.length_nil, List.length_map, List.length_append, List.length_take, List.length_drop, List.length_replicate, List.length_set, mkG_len] <;> omega) | fail) only [push_cast, if_pos, decide_eq_true, decide_eq_false, hx, simprocAttr, -Nat.reduceSubDiff]))
    refine callC (specSum x w (by omega)) ?_
    (simp -dsimp (disch := first | omega | (simp only [hx, List.length_cons, List.length_nil, List.length_map, List.length_append, List.length_take, List.length_drop, List.length_replicate, List.length_set, mkG_len] <;> omega) | fail) only [push_cast, if_pos, decide_eq_true, decide_eq_false, hx, simprocAttr, -Nat.reduceSubDiff]) <;> (repeat (refine (aw_draw (by kernel_rfl)).2 ?_; simp -dsimp (disch := first | omega | (simp only [hx, List.length_cons, List.length_nil, List.length_map, List.length_append, List.length_take, List.length_drop, List.length_replicate, List.length_set, mkG_len] <;> omega) | fail) only [push_cast, if_pos, decide_eq_true, decide_eq_false, hx, simprocAttr, -Nat.reduceSubDiff]))
    refine ih (i + 1) _ (by omega) h ?_
    rw [hst]
    simp -dsimp (disch := first | omega | (simp only [wr_id, List.map_append, List.length_append, List.length_cons, List.length_nil, List.map_cons, List.map_nil, List.length_cons, List.length_nil, List.length_map, List.length_append, List.length_take, List.length_drop, List.length_replicate, List.length_set, mkG_len] <;> omega) | fail) only [push_cast, if_pos, decide_eq_true, decide_eq_false, wr_id, List.map_append, List.length_append, List.length_cons, List.length_nil, List.map_cons, List.map_nil, simprocAttr, -Nat.reduceSubDiff]
  · have hi : i = P.length := by omega
    subst hi
    rw [List.take_length] at hil ⊢
    (simp -dsimp (disch := first | omega | (simp only [List.length_map, List.length_cons, List.length_nil, List.length_map, List.length_append, List.length_take, List.length_drop, List.length_replicate, List.length_set, mkG_len] <;> omega) | fail) only [push_cast, if_pos, decide_eq_true, decide_eq_false, List.length_map, simprocAttr, -Nat.reduceSubDiff]) <;> (repeat (refine (aw_draw (by kernel_rfl)).2 ?_; simp -dsimp (disch := first | omega | (simp only [List.length_map, List.length_cons, List.length_nil, List.length_map, List.length_append, List.length_take, List.length_drop, List.length_replicate, List.length_set, mkG_len] <;> omega) | fail) only [push_cast, if_pos, decide_eq_true, decide_eq_false, List.length_map, simprocAttr, -Nat.reduceSubDiff]))
theorem desc_len {t : Str} {w : Int} : (descL t w).1.S.length ≤ 3001 := by
  unfold descL
  split
  · simp [emL]
  · simp only [List.length_map]; exact pieces_len t
theorem formL_len {l : Lst} {w : Int} : (formL l w).size ≤ 7000 := by
  unfold formL
  split
  · rename_i h
    obtain ⟨_, w8, s0, s3, hn, hsz⟩ := okLs_up h
    have h1 := lines_len hsz w8
    have h2 := decD_len l.sz.toNat
    rw [stB_size]
    unfold formB
    have h3 : sizB.length = 5 := rfl
    rw [List.length_append, List.length_append, List.length_append]
    simp only [List.length_cons, List.length_nil]
    have h4 : (Lib.decDigits l.sz.toNat).length ≤ 619 := by
      have : (Lib.decDigits l.sz.toNat).length = Lib.nDigits l.sz.toNat := Lib.decDigits_length _
      have h5 : Lib.nDigits l.sz.toNat ≤ 5 := by
        apply Classical.byContradiction
        intro hc
        have hq : ∀ k u : Nat, u < 10 ^ (k + 1) → Lib.nDigits u ≤ k + 1 := by
          intro k
          induction k with
          | zero => intro u hu; rw [Lib.nDigits_small (by simpa using hu)]; exact Nat.le_refl _
          | succ k ih =>
            intro u hu
            by_cases h : u < 10
            · rw [Lib.nDigits_small h]; omega
            · rw [Lib.nDigits_big h]
              have := ih (u / 10) (by rw [Nat.pow_succ] at hu; omega)
              omega
        have := hq 4 l.sz.toNat (by omega)
        omega
      omega
    omega
  · exact Nat.zero_le _
def E124 : Env := { T := T0, kp := look [(0, [0, 1]), (1, [0, 1]), (2, [1, 5, 6]), (3, []), (4, [1, 5])] }
attribute [local push_cast] E124
set_option maxHeartbeats 1000000 in
theorem implName (t : Str) (w : Int) (ht : t.size ≤ 100000000) : Does Tryz.prog 124 [.sc (.string t), .sc (.int .i64 w)] (.sc (.string (nameS t w)), []) := by
  refine does_of (E := E124) (rs := [.tmp 4]) (lent := []) tOk rfl Tryz.func124 rfl (by decide) rfl rfl (Nat.le_of_ble_eq_true rfl) (Nat.le_of_ble_eq_true rfl) ?_
  obtain ⟨M, hM⟩ : ∃ M, M = nameS t w := ⟨_, rfl⟩
  rw [← hM]
  unfold nameS at hM
  have hl := desc_len (t := t) (w := w)
  (simp -dsimp (disch := first | omega | (simp only [List.length_cons, List.length_nil, List.length_map, List.length_append, List.length_take, List.length_drop, List.length_replicate, List.length_set, mkG_len] <;> omega) | fail) only [push_cast, if_pos, decide_eq_true, decide_eq_false, simprocAttr, -Nat.reduceSubDiff]) <;> (repeat (refine (aw_draw (by kernel_rfl)).2 ?_; simp -dsimp (disch := first | omega | (simp only [List.length_cons, List.length_nil, List.length_map, List.length_append, List.length_take, List.length_drop, List.length_replicate, List.length_set, mkG_len] <;> omega) | fail) only [push_cast, if_pos, decide_eq_true, decide_eq_false, simprocAttr, -Nat.reduceSubDiff]))
  refine callC (implDescribe0 t w ht) ?_
  generalize descL t w = D at *
  obtain ⟨l, b⟩ := D
  simp only at hM hl
  cases b with
  | false =>
    have hM : M = ⟨#[]⟩ := hM
    (simp -dsimp (disch := first | omega | (simp only [hM, List.length_cons, List.length_nil, List.length_map, List.length_append, List.length_take, List.length_drop, List.length_replicate, List.length_set, mkG_len] <;> omega) | fail) only [push_cast, if_pos, decide_eq_true, decide_eq_false, hM, simprocAttr, -Nat.reduceSubDiff]) <;> (repeat (refine (aw_draw (by kernel_rfl)).2 ?_; simp -dsimp (disch := first | omega | (simp only [hM, List.length_cons, List.length_nil, List.length_map, List.length_append, List.length_take, List.length_drop, List.length_replicate, List.length_set, mkG_len] <;> omega) | fail) only [push_cast, if_pos, decide_eq_true, decide_eq_false, hM, simprocAttr, -Nat.reduceSubDiff]))
  | true =>
    have hM : M = sumS (formL l w) w := hM
    have hf := formL_len (l := l) (w := w)
    (simp -dsimp (disch := first | omega | (simp only [List.length_cons, List.length_nil, List.length_map, List.length_append, List.length_take, List.length_drop, List.length_replicate, List.length_set, mkG_len] <;> omega) | fail) only [push_cast, if_pos, decide_eq_true, decide_eq_false, simprocAttr, -Nat.reduceSubDiff]) <;> (repeat (refine (aw_draw (by kernel_rfl)).2 ?_; simp -dsimp (disch := first | omega | (simp only [List.length_cons, List.length_nil, List.length_map, List.length_append, List.length_take, List.length_drop, List.length_replicate, List.length_set, mkG_len] <;> omega) | fail) only [push_cast, if_pos, decide_eq_true, decide_eq_false, simprocAttr, -Nat.reduceSubDiff]))
    refine callC (implFormList l w (by omega)) ?_
    (simp -dsimp (disch := first | omega | (simp only [List.length_cons, List.length_nil, List.length_map, List.length_append, List.length_take, List.length_drop, List.length_replicate, List.length_set, mkG_len] <;> omega) | fail) only [push_cast, if_pos, decide_eq_true, decide_eq_false, simprocAttr, -Nat.reduceSubDiff]) <;> (repeat (refine (aw_draw (by kernel_rfl)).2 ?_; simp -dsimp (disch := first | omega | (simp only [List.length_cons, List.length_nil, List.length_map, List.length_append, List.length_take, List.length_drop, List.length_replicate, List.length_set, mkG_len] <;> omega) | fail) only [push_cast, if_pos, decide_eq_true, decide_eq_false, simprocAttr, -Nat.reduceSubDiff]))
    refine callC (implSum (formL l w) w (by omega)) ?_
    (simp -dsimp (disch := first | omega | (simp only [hM, List.length_cons, List.length_nil, List.length_map, List.length_append, List.length_take, List.length_drop, List.length_replicate, List.length_set, mkG_len] <;> omega) | fail) only [push_cast, if_pos, decide_eq_true, decide_eq_false, hM, simprocAttr, -Nat.reduceSubDiff]) <;> (repeat (refine (aw_draw (by kernel_rfl)).2 ?_; simp -dsimp (disch := first | omega | (simp only [hM, List.length_cons, List.length_nil, List.length_map, List.length_append, List.length_take, List.length_drop, List.length_replicate, List.length_set, mkG_len] <;> omega) | fail) only [push_cast, if_pos, decide_eq_true, decide_eq_false, hM, simprocAttr, -Nat.reduceSubDiff]))
def E56 : Env := { T := T0, kp := look [(0, [0, 1]), (1, [0, 1]), (2, []), (3, [0, 1])] }
attribute [local push_cast] E56
set_option maxHeartbeats 1000000 in
theorem specName (t : Str) (w : Int) (ht : t.size ≤ 100000000) : Does Tryz.prog 56 [.sc (.string t), .sc (.int .i64 w)] (.sc (.string (nameS t w)), []) := by
  refine does_of (E := E56) (rs := [.tmp 4]) (lent := []) tOk rfl Tryz.func56 rfl (by decide) rfl rfl (Nat.le_of_ble_eq_true rfl) (Nat.le_of_ble_eq_true rfl) ?_
  obtain ⟨M, hM⟩ : ∃ M, M = nameS t w := ⟨_, rfl⟩
  rw [← hM]
  unfold nameS at hM
  by_cases hbig : 3000 < t.size
  · have hd : descL t w = (emL, false) := by unfold descL; rw [if_pos (.inl hbig)]
    have hM : M = ⟨#[]⟩ := by rw [hM, hd]; rfl
    (simp -dsimp (disch := first | omega | (simp only [hbig, hM, List.length_cons, List.length_nil, List.length_map, List.length_append, List.length_take, List.length_drop, List.length_replicate, List.length_set, mkG_len] <;> omega) | fail) only [push_cast, if_pos, decide_eq_true, decide_eq_false, hbig, hM, simprocAttr, -Nat.reduceSubDiff]) <;> (repeat (refine (aw_draw (by kernel_rfl)).2 ?_; simp -dsimp (disch := first | omega | (simp only [hbig, hM, List.length_cons, List.length_nil, List.length_map, List.length_append, List.length_take, List.length_drop, List.length_replicate, List.length_set, mkG_len] <;> omega) | fail) only [push_cast, if_pos, decide_eq_true, decide_eq_false, hbig, hM, simprocAttr, -Nat.reduceSubDiff]))
  have hl := desc_len (t := t) (w := w)
  have hM : M = sumS (formL (descL t w).1 w) w := by
    cases hw : inB w 1 8 with
    | true =>
      have hd : (descL t w).2 = true := by unfold descL; rw [if_neg (by rintro (q | q); exact hbig q; rw [hw] at q; cases q)]
      rw [hM, hd]; rfl
    | false =>
      have hd : (descL t w).2 = false := by unfold descL; rw [if_pos (.inr hw)]
      have : ¬ (1 ≤ w ∧ w ≤ 8) := of_decide_eq_false hw
      rw [hM, hd]
      show em = sumS _ w
      unfold sumS
      rw [if_neg this]
  have hf := formL_len (l := (descL t w).1) (w := w)
  (simp -dsimp (disch := first | omega | (simp only [hbig, List.length_cons, List.length_nil, List.length_map, List.length_append, List.length_take, List.length_drop, List.length_replicate, List.length_set, mkG_len] <;> omega) | fail) only [push_cast, if_pos, decide_eq_true, decide_eq_false, hbig, simprocAttr, -Nat.reduceSubDiff]) <;> (repeat (refine (aw_draw (by kernel_rfl)).2 ?_; simp -dsimp (disch := first | omega | (simp only [hbig, List.length_cons, List.length_nil, List.length_map, List.length_append, List.length_take, List.length_drop, List.length_replicate, List.length_set, mkG_len] <;> omega) | fail) only [push_cast, if_pos, decide_eq_true, decide_eq_false, hbig, simprocAttr, -Nat.reduceSubDiff]))
  refine callC (specDescribe t w ht) ?_
  (simp -dsimp (disch := first | omega | (simp only [List.length_cons, List.length_nil, List.length_map, List.length_append, List.length_take, List.length_drop, List.length_replicate, List.length_set, mkG_len] <;> omega) | fail) only [push_cast, if_pos, decide_eq_true, decide_eq_false, simprocAttr, -Nat.reduceSubDiff]) <;> (repeat (refine (aw_draw (by kernel_rfl)).2 ?_; simp -dsimp (disch := first | omega | (simp only [List.length_cons, List.length_nil, List.length_map, List.length_append, List.length_take, List.length_drop, List.length_replicate, List.length_set, mkG_len] <;> omega) | fail) only [push_cast, if_pos, decide_eq_true, decide_eq_false, simprocAttr, -Nat.reduceSubDiff]))
  refine callC (specFormList (descL t w).1 w (by omega)) ?_
  (simp -dsimp (disch := first | omega | (simp only [List.length_cons, List.length_nil, List.length_map, List.length_append, List.length_take, List.length_drop, List.length_replicate, List.length_set, mkG_len] <;> omega) | fail) only [push_cast, if_pos, decide_eq_true, decide_eq_false, simprocAttr, -Nat.reduceSubDiff]) <;> (repeat (refine (aw_draw (by kernel_rfl)).2 ?_; simp -dsimp (disch := first | omega | (simp only [List.length_cons, List.length_nil, List.length_map, List.length_append, List.length_take, List.length_drop, List.length_replicate, List.length_set, mkG_len] <;> omega) | fail) only [push_cast, if_pos, decide_eq_true, decide_eq_false, simprocAttr, -Nat.reduceSubDiff]))
  refine callC (specSum (formL (descL t w).1 w) w (by omega)) ?_
  (simp -dsimp (disch := first | omega | (simp only [hM, List.length_cons, List.length_nil, List.length_map, List.length_append, List.length_take, List.length_drop, List.length_replicate, List.length_set, mkG_len] <;> omega) | fail) only [push_cast, if_pos, decide_eq_true, decide_eq_false, hM, simprocAttr, -Nat.reduceSubDiff]) <;> (repeat (refine (aw_draw (by kernel_rfl)).2 ?_; simp -dsimp (disch := first | omega | (simp only [hM, List.length_cons, List.length_nil, List.length_map, List.length_append, List.length_take, List.length_drop, List.length_replicate, List.length_set, mkG_len] <;> omega) | fail) only [push_cast, if_pos, decide_eq_true, decide_eq_false, hM, simprocAttr, -Nat.reduceSubDiff]))
end Go.Proofs.YtgkncgiglmdnaaaGreatDoor.Mx

/- Things saved in stores: pure. -/
namespace Go.Proofs.YtgkncgiglmdnaaaGreatDoor.Mx
set_option linter.all false
open Go Go.RowKit
noncomputable def putsF (now : Int) : Store → List Str → Store × Int
  | s, [] => (s, 0)
  | s, t :: r => if (putF s t now).2 = 0 then putsF now (putF s t now).1 r else (emS, (putF s t now).2)
def partsL (t : Str) (w : Int) : List Str := formL (descL t w).1 w :: piecesL t
noncomputable def saveF (s : Store) (t : Str) (now : Int) : Store × Int :=
  if (validSt s && decide (t.size ≤ 3000) && inB now 0 1000000) = false then (emS, 1)
  else if (pinS s (nameS t s.w)).2 = 0 then putsF now (pinS s (nameS t s.w)).1 (partsL t s.w) else (emS, (pinS s (nameS t s.w)).2)
theorem sumS_le (t : Str) (w : Int) : (sumS t w).size ≤ 8 := by
  by_cases h : 1 ≤ w ∧ w ≤ 8
  · have := sumS_size (t := t) h.1 h.2; omega
  · unfold sumS; rw [if_neg h]; exact Nat.zero_le _
theorem nameS_le (t : Str) (w : Int) : (nameS t w).size ≤ 8 := by
  unfold nameS
  split
  · exact sumS_le _ _
  · exact Nat.zero_le _
theorem parts_sz {t x : Str} {w : Int} (h : x ∈ partsL t w) : x.size ≤ 7000 := by
  unfold partsL at h
  rcases List.mem_cons.1 h with rfl | h
  · exact formL_len
  · have := pieces_sz h; omega
theorem parts_len (t : Str) (w : Int) : (partsL t w).length ≤ 3002 := by
  have := pieces_len t
  unfold partsL
  rw [List.length_cons]; omega
theorem puts_ok {now : Int} : ∀ {L : List Str} {s : Store}, okStore s → (∀ x ∈ L, x.size ≤ 7000) → okStore (putsF now s L).1
  | [], _, hs, _ => hs
  | t :: r, s, hs, hL => by
    rw [putsF]
    split
    · exact puts_ok (put_ok hs (by have := hL t (by simp); omega)) (fun x hx => hL x (by simp [hx]))
    · exact emS_ok
theorem save_ok {s : Store} {t : Str} {now : Int} (hs : okStore s) : okStore (saveF s t now).1 := by
  unfold saveF
  split
  · exact emS_ok
  · split
    · exact puts_ok (pinS_ok hs (by have := nameS_le t s.w; show _ ≤ _; omega)) (fun x hx => parts_sz hx)
    · exact emS_ok
end Go.Proofs.YtgkncgiglmdnaaaGreatDoor.Mx

/- Lists' texts read again: the reference's parts. -/
namespace Go.Proofs.YtgkncgiglmdnaaaGreatDoor.Mx
set_option linter.all false
open Go Go.RowKit Go.Proofs
set_option linter.unusedSimpArgs false
theorem byteRow_of {v : Int} (h0 : 0 ≤ v) (h1 : v ≤ 255) : ([.sc (.int .u8 v)] : Row) = byteRow (UInt8.ofNat v.toNat) := by
  unfold byteRow
  rw [UInt8.toNat_ofNat']
  rw [Nat.mod_eq_of_lt (by omega), show ((v.toNat : Nat) : Int) = v by omega]
def E95 : Env := { T := T0, kp := look [(0, [0, 1]), (1, [0, 1]), (2, [0, 1, 5]), (3, [0, 1, 5, 6]), (4, [0, 1, 5, 6, 7]), (5, [0, 1, 5, 6, 7]), (6, [0, 1, 5, 6, 7]), (7, [0, 1, 5, 6, 7]), (8, [0, 1, 5, 7]), (9, [0, 5, 6])] }
attribute [local push_cast] E95
set_option maxHeartbeats 1000000 in
theorem l3Cut (t : Str) (ht : t.size ≤ 100000000) : Does Tryz.prog 95 [.sc (.string t), .sc (.int .u8 10)] (.sl true 1 (((cutL 10 (bt t)).map stB).map strR), []) := by
  refine does_of (E := E95) (rs := [.tmp 4]) (lent := []) tOk rfl Tryz.func95 rfl (by decide) rfl rfl (Nat.le_of_ble_eq_true rfl) (Nat.le_of_ble_eq_true rfl) ?_
  obtain ⟨M, hM⟩ : ∃ M, M = (cutL 10 (bt t)).map stB := ⟨_, rfl⟩
  rw [← hM]
  unfold cutL at hM
  (simp -dsimp (disch := first | omega | (simp only [List.length_cons, List.length_nil, List.length_map, List.length_append, List.length_take, List.length_drop, List.length_replicate, List.length_set, mkG_len] <;> omega) | fail) only [push_cast, if_pos, decide_eq_true, decide_eq_false, simprocAttr, -Nat.reduceSubDiff]) <;> (repeat (refine (aw_draw (by kernel_rfl)).2 ?_; simp -dsimp (disch := first | omega | (simp only [List.length_cons, List.length_nil, List.length_map, List.length_append, List.length_take, List.length_drop, List.length_replicate, List.length_set, mkG_len] <;> omega) | fail) only [push_cast, if_pos, decide_eq_true, decide_eq_false, simprocAttr, -Nat.reduceSubDiff]))
  refine loop_ind (α := Nat × Nat × List Str) (fun q => q.1 ≤ t.size ∧ q.2.1 ≤ q.1 ∧ q.2.2.length ≤ q.1 ∧ q.2.2 ++ (cutF 10 [] (curB t q.2.1 q.1) ((bt t).drop q.1)).map stB = M)
    (fun q => ⟨[(0, .sc (.string t)), (1, .sc (.int .u8 10)), (5, .ow 1 0 q.2.2.length), (6, .sc (.int .i64 q.2.1)), (7, .sc (.int .i64 q.1))], [(1, .ar 1 0 (q.2.2.map strR))], 2⟩) (fun q => t.size - q.1) (0, 0, []) ⟨Nat.zero_le _, Nat.le_refl _, Nat.le_refl _, by rw [cur_nil]; simp [hM]⟩ ?_ ?_
  · simp -dsimp (disch := first | omega | (simp only [List.length_cons, List.length_nil, List.length_map, List.length_append, List.length_take, List.length_drop, List.length_replicate, List.length_set, mkG_len] <;> omega) | fail) only [push_cast, if_pos, decide_eq_true, decide_eq_false, simprocAttr, -Nat.reduceSubDiff]
  rintro ⟨i, a, acc⟩ ⟨hi, ha, hac, hy⟩ ih
  replace hi : i ≤ t.size := hi
  replace ha : a ≤ i := ha
  replace hac : acc.length ≤ i := hac
  replace hy : acc ++ (cutF 10 [] (curB t a i) ((bt t).drop i)).map stB = M := hy
  by_cases h : i < t.size
  · obtain ⟨x, hx⟩ := ex_get (by rw [bt_len]; exact h : i < (bt t).length)
    rw [drop_step hx, cutF] at hy
    have e1 : a + ((i : Int) - (a : Int)).toNat = i := by omega
    have e2 : ((i : Int) - (a : Int)).toNat = i - a := by omega
    have e3 : a + (i - a) = i := by omega
    by_cases e : x = 10
    · rw [if_pos e, cutF_acc] at hy
      subst e
      have hx10 : ((10 : UInt8).toNat : Int) = 10 := rfl
      (simp -dsimp (disch := first | omega | (simp only [hx, hx10, e1, e2, e3, List.length_cons, List.length_nil, List.length_map, List.length_append, List.length_take, List.length_drop, List.length_replicate, List.length_set, mkG_len] <;> omega) | fail) only [push_cast, if_pos, decide_eq_true, decide_eq_false, hx, hx10, e1, e2, e3, simprocAttr, -Nat.reduceSubDiff]) <;> (repeat (refine (aw_draw (by kernel_rfl)).2 ?_; simp -dsimp (disch := first | omega | (simp only [hx, hx10, e1, e2, e3, List.length_cons, List.length_nil, List.length_map, List.length_append, List.length_take, List.length_drop, List.length_replicate, List.length_set, mkG_len] <;> omega) | fail) only [push_cast, if_pos, decide_eq_true, decide_eq_false, hx, hx10, e1, e2, e3, simprocAttr, -Nat.reduceSubDiff]))
      refine ih (i + 1, i + 1, acc ++ [t.extract a i]) _ (by show t.size - (i + 1) < t.size - i; omega) ⟨h, Nat.le_refl _, by simp only [List.length_append, List.length_cons, List.length_nil]; omega, by rw [cur_nil, ← hy, ext_cur]; simp⟩ ?_
      simp -dsimp (disch := first | omega | (simp only [wr_id, List.map_append, List.length_append, List.length_cons, List.length_nil, List.length_cons, List.length_nil, List.length_map, List.length_append, List.length_take, List.length_drop, List.length_replicate, List.length_set, mkG_len] <;> omega) | fail) only [push_cast, if_pos, decide_eq_true, decide_eq_false, wr_id, List.map_append, List.length_append, List.length_cons, List.length_nil, simprocAttr, -Nat.reduceSubDiff]
    · have hxn : ¬ (x.toNat : Int) = 10 := fun q => e (UInt8.toNat_inj.1 (by show x.toNat = 10; omega))
      rw [if_neg e, ← cur_step hx ha] at hy
      (simp -dsimp (disch := first | omega | (simp only [hx, hxn, List.length_cons, List.length_nil, List.length_map, List.length_append, List.length_take, List.length_drop, List.length_replicate, List.length_set, mkG_len] <;> omega) | fail) only [push_cast, if_pos, decide_eq_true, decide_eq_false, hx, hxn, simprocAttr, -Nat.reduceSubDiff]) <;> (repeat (refine (aw_draw (by kernel_rfl)).2 ?_; simp -dsimp (disch := first | omega | (simp only [hx, hxn, List.length_cons, List.length_nil, List.length_map, List.length_append, List.length_take, List.length_drop, List.length_replicate, List.length_set, mkG_len] <;> omega) | fail) only [push_cast, if_pos, decide_eq_true, decide_eq_false, hx, hxn, simprocAttr, -Nat.reduceSubDiff]))
      refine ih (i + 1, a, acc) _ (by show t.size - (i + 1) < t.size - i; omega) ⟨h, by show a ≤ i + 1; omega, by show acc.length ≤ i + 1; omega, hy⟩ ?_
      simp -dsimp (disch := first | omega | (simp only [wr_id, List.length_cons, List.length_nil, List.length_map, List.length_append, List.length_take, List.length_drop, List.length_replicate, List.length_set, mkG_len] <;> omega) | fail) only [push_cast, if_pos, decide_eq_true, decide_eq_false, wr_id, simprocAttr, -Nat.reduceSubDiff]
  · have hi : i = t.size := by omega
    have hd : (bt t).drop i = [] := List.drop_eq_nil_of_le (by rw [bt_len]; omega)
    rw [hd, cutF] at hy
    have e1 : a + ((t.size : Int) - (a : Int)).toNat = t.size := by omega
    have e2 : ((t.size : Int) - (a : Int)).toNat = t.size - a := by omega
    have e3 : a + (t.size - a) = t.size := by omega
    have hy : acc.map strR ++ [[.sc (.string (t.extract a t.size))]] = M.map strR := by rw [← hy, ext_cur, ← hi]; simp [strR]
    (simp -dsimp (disch := first | omega | (simp only [hi, e1, e2, e3, List.length_cons, List.length_nil, List.length_map, List.length_append, List.length_take, List.length_drop, List.length_replicate, List.length_set, mkG_len] <;> omega) | fail) only [push_cast, if_pos, decide_eq_true, decide_eq_false, hi, e1, e2, e3, simprocAttr, -Nat.reduceSubDiff]) <;> (repeat (refine (aw_draw (by kernel_rfl)).2 ?_; simp -dsimp (disch := first | omega | (simp only [hi, e1, e2, e3, List.length_cons, List.length_nil, List.length_map, List.length_append, List.length_take, List.length_drop, List.length_replicate, List.length_set, mkG_len] <;> omega) | fail) only [push_cast, if_pos, decide_eq_true, decide_eq_false, hi, e1, e2, e3, simprocAttr, -Nat.reduceSubDiff]))
    rw [hy]
def E161 : Env := { T := T0, kp := look [(0, [0]), (1, [0]), (2, [0]), (3, [0])] }
attribute [local push_cast] E161
theorem l3Digit (b : UInt8) : Does Tryz.prog 161 [.sc (.int .u8 b.toNat)] (.sc (.int .i64 (digI b)), []) := by
  refine does_of (E := E161) (rs := [.tmp 2]) (lent := []) tOk rfl Tryz.func161 rfl (by decide) rfl rfl (Nat.le_of_ble_eq_true rfl) (Nat.le_of_ble_eq_true rfl) ?_
  obtain ⟨M, hM⟩ : ∃ M, M = digI b := ⟨_, rfl⟩
  rw [← hM]
  unfold digI at hM
  have hb := b.toNat_lt
  by_cases h1 : 48 ≤ b.toNat
  rotate_left
  · rw [if_neg (by omega)] at hM
    (simp -dsimp (disch := first | omega | (simp only [h1, wr_id, wr_u8, List.length_cons, List.length_nil, List.length_map, List.length_append, List.length_take, List.length_drop, List.length_replicate, List.length_set, mkG_len] <;> omega) | fail) only [push_cast, if_pos, decide_eq_true, decide_eq_false, h1, wr_id, wr_u8, simprocAttr, -Nat.reduceSubDiff]) <;> (repeat (refine (aw_draw (by kernel_rfl)).2 ?_; simp -dsimp (disch := first | omega | (simp only [h1, wr_id, wr_u8, List.length_cons, List.length_nil, List.length_map, List.length_append, List.length_take, List.length_drop, List.length_replicate, List.length_set, mkG_len] <;> omega) | fail) only [push_cast, if_pos, decide_eq_true, decide_eq_false, h1, wr_id, wr_u8, simprocAttr, -Nat.reduceSubDiff]))
    rw [hM]
  by_cases h2 : b.toNat ≤ 57
  rotate_left
  · rw [if_neg (by omega)] at hM
    (simp -dsimp (disch := first | omega | (simp only [h1, h2, wr_id, wr_u8, List.length_cons, List.length_nil, List.length_map, List.length_append, List.length_take, List.length_drop, List.length_replicate, List.length_set, mkG_len] <;> omega) | fail) only [push_cast, if_pos, decide_eq_true, decide_eq_false, h1, h2, wr_id, wr_u8, simprocAttr, -Nat.reduceSubDiff]) <;> (repeat (refine (aw_draw (by kernel_rfl)).2 ?_; simp -dsimp (disch := first | omega | (simp only [h1, h2, wr_id, wr_u8, List.length_cons, List.length_nil, List.length_map, List.length_append, List.length_take, List.length_drop, List.length_replicate, List.length_set, mkG_len] <;> omega) | fail) only [push_cast, if_pos, decide_eq_true, decide_eq_false, h1, h2, wr_id, wr_u8, simprocAttr, -Nat.reduceSubDiff]))
    rw [hM]
  rw [if_pos ⟨h1, h2⟩] at hM
  have e : wr .u8 ((b.toNat : Int) - 48) = (b.toNat : Int) - 48 := by rw [wr_u8]; omega
  (simp -dsimp (disch := first | omega | (simp only [h1, h2, e, wr_id, List.length_cons, List.length_nil, List.length_map, List.length_append, List.length_take, List.length_drop, List.length_replicate, List.length_set, mkG_len] <;> omega) | fail) only [push_cast, if_pos, decide_eq_true, decide_eq_false, h1, h2, e, wr_id, simprocAttr, -Nat.reduceSubDiff]) <;> (repeat (refine (aw_draw (by kernel_rfl)).2 ?_; simp -dsimp (disch := first | omega | (simp only [h1, h2, e, wr_id, List.length_cons, List.length_nil, List.length_map, List.length_append, List.length_take, List.length_drop, List.length_replicate, List.length_set, mkG_len] <;> omega) | fail) only [push_cast, if_pos, decide_eq_true, decide_eq_false, h1, h2, e, wr_id, simprocAttr, -Nat.reduceSubDiff]))
  rw [hM]
def E96 : Env := { T := T0, kp := look [(0, [0]), (1, [0]), (2, [0, 3]), (3, []), (4, [0, 3]), (5, [0, 3, 4]), (6, [0, 3, 4]), (7, [0, 3, 4]), (8, []), (9, [0, 3, 4]), (10, [0, 3]), (11, []), (12, [3])] }
attribute [local push_cast] E96
set_option maxHeartbeats 1000000 in
theorem l3Number (t : Str) (ht : t.size ≤ 100000000) : Does Tryz.prog 96 [.sc (.string t)] (.sc (.int .i64 (numB (bt t))), []) := by
  refine does_of (E := E96) (rs := [.tmp 2]) (lent := []) tOk rfl Tryz.func96 rfl (by decide) rfl rfl (Nat.le_of_ble_eq_true rfl) (Nat.le_of_ble_eq_true rfl) ?_
  obtain ⟨M, hM⟩ : ∃ M, M = numB (bt t) := ⟨_, rfl⟩
  rw [← hM]
  unfold numB at hM
  rw [bt_len] at hM
  by_cases h1 : t.size < 1
  · rw [if_pos (.inl h1)] at hM
    (simp -dsimp (disch := first | omega | (simp only [h1, List.length_cons, List.length_nil, List.length_map, List.length_append, List.length_take, List.length_drop, List.length_replicate, List.length_set, mkG_len] <;> omega) | fail) only [push_cast, if_pos, decide_eq_true, decide_eq_false, h1, simprocAttr, -Nat.reduceSubDiff]) <;> (repeat (refine (aw_draw (by kernel_rfl)).2 ?_; simp -dsimp (disch := first | omega | (simp only [h1, List.length_cons, List.length_nil, List.length_map, List.length_append, List.length_take, List.length_drop, List.length_replicate, List.length_set, mkG_len] <;> omega) | fail) only [push_cast, if_pos, decide_eq_true, decide_eq_false, h1, simprocAttr, -Nat.reduceSubDiff]))
    rw [hM]
  by_cases h2 : 4 < t.size
  · rw [if_pos (.inr h2)] at hM
    (simp -dsimp (disch := first | omega | (simp only [h1, h2, List.length_cons, List.length_nil, List.length_map, List.length_append, List.length_take, List.length_drop, List.length_replicate, List.length_set, mkG_len] <;> omega) | fail) only [push_cast, if_pos, decide_eq_true, decide_eq_false, h1, h2, simprocAttr, -Nat.reduceSubDiff]) <;> (repeat (refine (aw_draw (by kernel_rfl)).2 ?_; simp -dsimp (disch := first | omega | (simp only [h1, h2, List.length_cons, List.length_nil, List.length_map, List.length_append, List.length_take, List.length_drop, List.length_replicate, List.length_set, mkG_len] <;> omega) | fail) only [push_cast, if_pos, decide_eq_true, decide_eq_false, h1, h2, simprocAttr, -Nat.reduceSubDiff]))
    rw [hM]
  rw [if_neg (by omega)] at hM
  (simp -dsimp (disch := first | omega | (simp only [h1, h2, List.length_cons, List.length_nil, List.length_map, List.length_append, List.length_take, List.length_drop, List.length_replicate, List.length_set, mkG_len] <;> omega) | fail) only [push_cast, if_pos, decide_eq_true, decide_eq_false, h1, h2, simprocAttr, -Nat.reduceSubDiff]) <;> (repeat (refine (aw_draw (by kernel_rfl)).2 ?_; simp -dsimp (disch := first | omega | (simp only [h1, h2, List.length_cons, List.length_nil, List.length_map, List.length_append, List.length_take, List.length_drop, List.length_replicate, List.length_set, mkG_len] <;> omega) | fail) only [push_cast, if_pos, decide_eq_true, decide_eq_false, h1, h2, simprocAttr, -Nat.reduceSubDiff]))
  refine loop_ind (α := Nat × Nat) (fun q => q.1 ≤ t.size ∧ q.2 + 1 ≤ 10 ^ q.1 ∧ Lib.decFrom q.2 ((bt t).drop q.1) = Lib.decFrom 0 (bt t))
    (fun q => ⟨[(0, .sc (.string t)), (3, .sc (.int .i64 q.2)), (4, .sc (.int .i64 q.1))], [], 1⟩) (fun q => t.size - q.1) (0, 0) ⟨Nat.zero_le _, by simp, rfl⟩ ?_ ?_
  · simp -dsimp (disch := first | omega | (simp only [List.length_cons, List.length_nil, List.length_map, List.length_append, List.length_take, List.length_drop, List.length_replicate, List.length_set, mkG_len] <;> omega) | fail) only [push_cast, if_pos, decide_eq_true, decide_eq_false, simprocAttr, -Nat.reduceSubDiff]
  rintro ⟨i, n⟩ ⟨hi, hn, hy⟩ ih
  replace hi : i ≤ t.size := hi
  replace hn : n + 1 ≤ 10 ^ i := hn
  replace hy : Lib.decFrom n ((bt t).drop i) = Lib.decFrom 0 (bt t) := hy
  have hn4 : n ≤ 10000 := by
    have : 10 ^ i ≤ 10 ^ 4 := Nat.pow_le_pow_right (by omega) (by omega)
    omega
  by_cases h : i < t.size
  · obtain ⟨x, hx⟩ := ex_get (by rw [bt_len]; exact h : i < (bt t).length)
    have hb := x.toNat_lt
    rw [drop_step hx, Lib.decFrom, Lib.digitVal] at hy
    have bad : ¬ (48 ≤ x.toNat ∧ x.toNat ≤ 57) → M = -1 := fun hc => by
      rw [if_neg hc] at hy
      rw [hM, ← hy]
    by_cases a1 : 48 ≤ x.toNat
    rotate_left
    · have hM := bad (by omega)
      (simp -dsimp (disch := first | omega | (simp only [hx, a1, hM, List.length_cons, List.length_nil, List.length_map, List.length_append, List.length_take, List.length_drop, List.length_replicate, List.length_set, mkG_len] <;> omega) | fail) only [push_cast, if_pos, decide_eq_true, decide_eq_false, hx, a1, hM, simprocAttr, -Nat.reduceSubDiff]) <;> (repeat (refine (aw_draw (by kernel_rfl)).2 ?_; simp -dsimp (disch := first | omega | (simp only [hx, a1, hM, List.length_cons, List.length_nil, List.length_map, List.length_append, List.length_take, List.length_drop, List.length_replicate, List.length_set, mkG_len] <;> omega) | fail) only [push_cast, if_pos, decide_eq_true, decide_eq_false, hx, a1, hM, simprocAttr, -Nat.reduceSubDiff]))
    by_cases a2 : x.toNat ≤ 57
    rotate_left
    · have hM := bad (by omega)
      (simp -dsimp (disch := first | omega | (simp only [hx, a1, a2, hM, List.length_cons, List.length_nil, List.length_map, List.length_append, List.length_take, List.length_drop, List.length_replicate, List.length_set, mkG_len] <;> omega) | fail) only [push_cast, if_pos, decide_eq_true, decide_eq_false, hx, a1, a2, hM, simprocAttr, -Nat.reduceSubDiff]) <;> (repeat (refine (aw_draw (by kernel_rfl)).2 ?_; simp -dsimp (disch := first | omega | (simp only [hx, a1, a2, hM, List.length_cons, List.length_nil, List.length_map, List.length_append, List.length_take, List.length_drop, List.length_replicate, List.length_set, mkG_len] <;> omega) | fail) only [push_cast, if_pos, decide_eq_true, decide_eq_false, hx, a1, a2, hM, simprocAttr, -Nat.reduceSubDiff]))
    rw [if_pos ⟨a1, a2⟩] at hy
    simp only at hy
    have e : wr .u8 ((x.toNat : Int) - 48) = (x.toNat : Int) - 48 := by rw [wr_u8]; omega
    have e2 : ((x.toNat : Int) - 48) = ((x.toNat - 48 : Nat) : Int) := by omega
    obtain ⟨d, hd⟩ : ∃ d, d = x.toNat - 48 := ⟨_, rfl⟩
    rw [← hd] at e2 hy
    have hd9 : d ≤ 9 := by omega
    rw [e2] at e
    clear hd
    (simp -dsimp (disch := first | omega | (simp only [hx, a1, a2, e2, wr_id, List.length_cons, List.length_nil, List.length_map, List.length_append, List.length_take, List.length_drop, List.length_replicate, List.length_set, mkG_len] <;> omega) | fail) only [push_cast, if_pos, decide_eq_true, decide_eq_false, hx, a1, a2, e2, wr_id, simprocAttr, -Nat.reduceSubDiff]) <;> (repeat (refine (aw_draw (by kernel_rfl)).2 ?_; simp -dsimp (disch := first | omega | (simp only [hx, a1, a2, e2, wr_id, List.length_cons, List.length_nil, List.length_map, List.length_append, List.length_take, List.length_drop, List.length_replicate, List.length_set, mkG_len] <;> omega) | fail) only [push_cast, if_pos, decide_eq_true, decide_eq_false, hx, a1, a2, e2, wr_id, simprocAttr, -Nat.reduceSubDiff]))
    refine ih (i + 1, n * 10 + d) _ (by show t.size - (i + 1) < t.size - i; omega) ⟨h, by show n * 10 + d + 1 ≤ 10 ^ (i + 1); rw [Nat.pow_succ]; omega, hy⟩ ?_
    simp -dsimp (disch := first | omega | (simp only [wr_id, e, e2, List.length_cons, List.length_nil, List.length_map, List.length_append, List.length_take, List.length_drop, List.length_replicate, List.length_set, mkG_len] <;> omega) | fail) only [push_cast, if_pos, decide_eq_true, decide_eq_false, wr_id, e, e2, simprocAttr, -Nat.reduceSubDiff]
  · have hi : i = t.size := by omega
    have hd : (bt t).drop i = [] := List.drop_eq_nil_of_le (by rw [bt_len]; omega)
    rw [hd, Lib.decFrom] at hy
    rw [← hy] at hM
    simp only at hM
    (simp -dsimp (disch := first | omega | (simp only [h, List.length_cons, List.length_nil, List.length_map, List.length_append, List.length_take, List.length_drop, List.length_replicate, List.length_set, mkG_len] <;> omega) | fail) only [push_cast, if_pos, decide_eq_true, decide_eq_false, h, simprocAttr, -Nat.reduceSubDiff]) <;> (repeat (refine (aw_draw (by kernel_rfl)).2 ?_; simp -dsimp (disch := first | omega | (simp only [h, List.length_cons, List.length_nil, List.length_map, List.length_append, List.length_take, List.length_drop, List.length_replicate, List.length_set, mkG_len] <;> omega) | fail) only [push_cast, if_pos, decide_eq_true, decide_eq_false, h, simprocAttr, -Nat.reduceSubDiff]))
    refine callC (l3Dec n (by omega)) ?_
    by_cases e : Lib.decDigits n = bt t
    · rw [if_pos e] at hM
      have e2 : stB (Lib.decDigits n) = t := by rw [e, stB_bt]
      (simp -dsimp (disch := first | omega | (simp only [e2, List.length_cons, List.length_nil, List.length_map, List.length_append, List.length_take, List.length_drop, List.length_replicate, List.length_set, mkG_len] <;> omega) | fail) only [push_cast, if_pos, decide_eq_true, decide_eq_false, e2, simprocAttr, -Nat.reduceSubDiff]) <;> (repeat (refine (aw_draw (by kernel_rfl)).2 ?_; simp -dsimp (disch := first | omega | (simp only [e2, List.length_cons, List.length_nil, List.length_map, List.length_append, List.length_take, List.length_drop, List.length_replicate, List.length_set, mkG_len] <;> omega) | fail) only [push_cast, if_pos, decide_eq_true, decide_eq_false, e2, simprocAttr, -Nat.reduceSubDiff]))
      rw [hM]
    · rw [if_neg e] at hM
      have e2 : ¬ stB (Lib.decDigits n) = t := fun q => e (by rw [← q, bt_stB])
      (simp -dsimp (disch := first | omega | (simp only [e2, List.length_cons, List.length_nil, List.length_map, List.length_append, List.length_take, List.length_drop, List.length_replicate, List.length_set, mkG_len] <;> omega) | fail) only [push_cast, if_pos, decide_eq_true, decide_eq_false, e2, simprocAttr, -Nat.reduceSubDiff]) <;> (repeat (refine (aw_draw (by kernel_rfl)).2 ?_; simp -dsimp (disch := first | omega | (simp only [e2, List.length_cons, List.length_nil, List.length_map, List.length_append, List.length_take, List.length_drop, List.length_replicate, List.length_set, mkG_len] <;> omega) | fail) only [push_cast, if_pos, decide_eq_true, decide_eq_false, e2, simprocAttr, -Nat.reduceSubDiff]))
      rw [hM]
end Go.Proofs.YtgkncgiglmdnaaaGreatDoor.Mx

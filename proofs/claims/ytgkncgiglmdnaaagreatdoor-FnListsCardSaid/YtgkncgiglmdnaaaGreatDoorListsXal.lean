/- A machine over values for Go functions, proved sound, and functions run on it: texts F34, F41, F54. -/
import Derived.Test.YtgkncgiglmdnaaaGreatDoorListsXah
import Derived.Test.YtgkncgiglmdnaaaGreatDoorListsXaj
import Derived.Test.YtgkncgiglmdnaaaGreatDoorListsXak
/- Lists' texts read again: the reference's parts. -/
namespace Go.Proofs.YtgkncgiglmdnaaaGreatDoor.Mx
set_option linter.all false
open Go Go.RowKit Go.Proofs
set_option linter.unusedSimpArgs false
theorem byteRow_of {v : Int} (h0 : 0 ≤ v) (h1 : v ≤ 255) : ([.sc (.int .u8 v)] : Row) = byteRow (UInt8.ofNat v.toNat) := by
  unfold byteRow
  rw [UInt8.toNat_ofNat']
  rw [Nat.mod_eq_of_lt (by omega), show ((v.toNat : Nat) : Int) = v by omega]
def E95 : Env := { T := T0, kp := look [(0, [0, 1]), (1, [0, 1]), (2, [0, 1, 5]), (3, [0, 1, 5, 6]), (4, [0, 1, 5, 6, 7]), (5, [0, 1, 5, 6, 7]), (6, [0, 1, 5, 6, 7]), (7, [0, 1, 5, 6, 7]), (8, [0, 1, 5, 7]), (9, [0, 5, 6])] }
attribute [local push_cast] E95
set_option maxHeartbeats 1000000 in
theorem l3Cut (t : Str) (ht : t.size ≤ 100000000) : Does Tryz.prog 95 [.sc (.string t), .sc (.int .u8 10)] (.sl true 1 (((cutL 10 (bt t)).map stB).map strR), []) := by
  refine does_of (E := E95) (rs := [.tmp 4]) (lent := []) tOk rfl Tryz.func95 rfl (by decide) rfl rfl (Nat.le_of_ble_eq_true rfl) (Nat.le_of_ble_eq_true rfl) ?_
  obtain ⟨M, hM⟩ : ∃ M, M = (cutL 10 (bt t)).map stB := ⟨_, rfl⟩
  rw [← hM]
  unfold cutL at hM
  (simp -dsimp (disch := first | omega | (simp only [List.length_cons, List.length_nil, List.length_map, List.length_append, List.length_take, List.length_drop, List.length_replicate, List.length_set, mkG_len] <;> omega) | fail) only [push_cast, if_pos, decide_eq_true, decide_eq_false, simprocAttr, -Nat.reduceSubDiff]) <;> (repeat (refine (aw_draw (by kernel_rfl)).2 ?_; simp -dsimp (disch := first | omega | (simp only [List.length_cons, List.length_nil, List.length_map, List.length_append, List.length_take, List.length_drop, List.length_replicate, List.length_set, mkG_len] <;> omega) | fail) only [push_cast, if_pos, decide_eq_true, decide_eq_false, simprocAttr, -Nat.reduceSubDiff]))
  refine loop_ind (α := Nat × Nat × List Str) (fun q => q.1 ≤ t.size ∧ q.2.1 ≤ q.1 ∧ q.2.2.length ≤ q.1 ∧ q.2.2 ++ (cutF 10 [] (curB t q.2.1 q.1) ((bt t).drop q.1)).map stB = M)
    (fun q => ⟨[(0, .sc (.string t)), (1, .sc (.int .u8 10)), (5, .ow 1 0 q.2.2.length), (6, .sc (.int .i64 q.2.1)), (7, .sc (.int .i64 q.1))], [(1, .ar 1 0 (q.2.2.map strR))], 2⟩) (fun q => t.size - q.1) (0, 0, []) ⟨Nat.zero_le _, Nat.le_refl _, Nat.le_refl _, by rw [cur_nil]; simp [hM]⟩ ?_ ?_
  · simp -dsimp (disch := first | omega | (simp only [List.length_cons, List.length_nil, List.length_map, List.length_append, List.length_take, List.length_drop, List.length_replicate, List.length_set, mkG_len] <;> omega) | fail) only [push_cast, if_pos, decide_eq_true, decide_eq_false, simprocAttr, -Nat.reduceSubDiff]
  rintro ⟨i, a, acc⟩ ⟨hi, ha, hac, hy⟩ ih
  replace hi : i ≤ t.size := hi
  replace ha : a ≤ i := ha
  replace hac : acc.length ≤ i := hac
  replace hy : acc ++ (cutF 10 [] (curB t a i) ((bt t).drop i)).map stB = M := hy
  by_cases h : i < t.size
  · obtain ⟨x, hx⟩ := ex_get (by rw [bt_len]; exact h : i < (bt t).length)
    rw [drop_step hx, cutF] at hy
    have e1 : a + ((i : Int) - (a : Int)).toNat = i := by omega
    have e2 : ((i : Int) - (a : Int)).toNat = i - a := by omega
    have e3 : a + (i - a) = i := by omega
    by_cases e : x = 10
    · rw [if_pos e, cutF_acc] at hy
      subst e
      have hx10 : ((10 : UInt8).toNat : Int) = 10 := rfl
      (simp -dsimp (disch := first | omega | (simp only [hx, hx10, e1, e2, e3, List.length_cons, List.length_nil, List.length_map, List.length_append, List.length_take, List.length_drop, List.length_replicate, List.length_set, mkG_len] <;> omega) | fail) only [push_cast, if_pos, decide_eq_true, decide_eq_false, hx, hx10, e1, e2, e3, simprocAttr, -Nat.reduceSubDiff]) <;> (repeat (refine (aw_draw (by kernel_rfl)).2 ?_; simp -dsimp (disch := first | omega | (simp only [hx, hx10, e1, e2, e3, List.length_cons, List.length_nil, List.length_map, List.length_append, List.length_take, List.length_drop, List.length_replicate, List.length_set, mkG_len] <;> omega) | fail) only [push_cast, if_pos, decide_eq_true, decide_eq_false, hx, hx10, e1, e2, e3, simprocAttr, -Nat.reduceSubDiff]))
      refine ih (i + 1, i + 1, acc ++ [t.extract a i]) _ (by show t.size - (i + 1) < t.size - i; omega) ⟨h, Nat.le_refl _, by simp only [List.length_append, List.length_cons, List.length_nil]; omega, by rw [cur_nil, ← hy, ext_cur]; simp⟩ ?_
      simp -dsimp (disch := first | omega | (simp only [wr_id, List.map_append, List.length_append, List.length_cons, List.length_nil, List.length_cons, List.length_nil, List.length_map, List.length_append, List.length_take, List.length_drop, List.length_replicate, List.length_set, mkG_len] <;> omega) | fail) only [push_cast, if_pos, decide_eq_true, decide_eq_false, wr_id, List.map_append, List.length_append, List.length_cons, List.length_nil, simprocAttr, -Nat.reduceSubDiff]
    · have hxn : ¬ (x.toNat : Int) = 10 := fun q => e (UInt8.toNat_inj.1 (by show x.toNat = 10; omega))
      rw [if_neg e, ← cur_step hx ha] at hy
      (simp -dsimp (disch := first | omega | (simp only [hx, hxn, List.length_cons, List.length_nil, List.length_map, List.length_append, List.length_take, List.length_drop, List.length_replicate, List.length_set, mkG_len] <;> omega) | fail) only [push_cast, if_pos, decide_eq_true, decide_eq_false, hx, hxn, simprocAttr, -Nat.reduceSubDiff]) <;> (repeat (refine (aw_draw (by kernel_rfl)).2 ?_; simp -dsimp (disch := first | omega | (simp only [hx, hxn, List.length_cons, List.length_nil, List.length_map, List.length_append, List.length_take, List.length_drop, List.length_replicate, List.length_set, mkG_len] <;> omega) | fail) only [push_cast, if_pos, decide_eq_true, decide_eq_false, hx, hxn, simprocAttr, -Nat.reduceSubDiff]))
      refine ih (i + 1, a, acc) _ (by show t.size - (i + 1) < t.size - i; omega) ⟨h, by show a ≤ i + 1; omega, by show acc.length ≤ i + 1; omega, hy⟩ ?_
      simp -dsimp (disch := first | omega | (simp only [wr_id, List.length_cons, List.length_nil, List.length_map, List.length_append, List.length_take, List.length_drop, List.length_replicate, List.length_set, mkG_len] <;> omega) | fail) only [push_cast, if_pos, decide_eq_true, decide_eq_false, wr_id, simprocAttr, -Nat.reduceSubDiff]
  · have hi : i = t.size := by omega
    have hd : (bt t).drop i = [] := List.drop_eq_nil_of_le (by rw [bt_len]; omega)
    rw [hd, cutF] at hy
    have e1 : a + ((t.size : Int) - (a : Int)).toNat = t.size := by omega
    have e2 : ((t.size : Int) - (a : Int)).toNat = t.size - a := by omega
    have e3 : a + (t.size - a) = t.size := by omega
    have hy : acc.map strR ++ [[.sc (.string (t.extract a t.size))]] = M.map strR := by rw [← hy, ext_cur, ← hi]; simp [strR]
    (simp -dsimp (disch := first | omega | (simp only [hi, e1, e2, e3, List.length_cons, List.length_nil, List.length_map, List.length_append, List.length_take, List.length_drop, List.length_replicate, List.length_set, mkG_len] <;> omega) | fail) only [push_cast, if_pos, decide_eq_true, decide_eq_false, hi, e1, e2, e3, simprocAttr, -Nat.reduceSubDiff]) <;> (repeat (refine (aw_draw (by kernel_rfl)).2 ?_; simp -dsimp (disch := first | omega | (simp only [hi, e1, e2, e3, List.length_cons, List.length_nil, List.length_map, List.length_append, List.length_take, List.length_drop, List.length_replicate, List.length_set, mkG_len] <;> omega) | fail) only [push_cast, if_pos, decide_eq_true, decide_eq_false, hi, e1, e2, e3, simprocAttr, -Nat.reduceSubDiff]))
    rw [hy]
def E161 : Env := { T := T0, kp := look [(0, [0]), (1, [0]), (2, [0]), (3, [0])] }
attribute [local push_cast] E161
theorem l3Digit (b : UInt8) : Does Tryz.prog 161 [.sc (.int .u8 b.toNat)] (.sc (.int .i64 (digI b)), []) := by
  refine does_of (E := E161) (rs := [.tmp 2]) (lent := []) tOk rfl Tryz.func161 rfl (by decide) rfl rfl (Nat.le_of_ble_eq_true rfl) (Nat.le_of_ble_eq_true rfl) ?_
  obtain ⟨M, hM⟩ : ∃ M, M = digI b := ⟨_, rfl⟩
  rw [← hM]
  unfold digI at hM
  have hb := b.toNat_lt
  by_cases h1 : 48 ≤ b.toNat
  rotate_left
  · rw [if_neg (by omega)] at hM
    (simp -dsimp (disch := first | omega | (simp only [h1, wr_id, wr_u8, List.length_cons, List.length_nil, List.length_map, List.length_append, List.length_take, List.length_drop, List.length_replicate, List.length_set, mkG_len] <;> omega) | fail) only [push_cast, if_pos, decide_eq_true, decide_eq_false, h1, wr_id, wr_u8, simprocAttr, -Nat.reduceSubDiff]) <;> (repeat (refine (aw_draw (by kernel_rfl)).2 ?_; simp -dsimp (disch := first | omega | (simp only [h1, wr_id, wr_u8, List.length_cons, List.length_nil, List.length_map, List.length_append, List.length_take, List.length_drop, List.length_replicate, List.length_set, mkG_len] <;> omega) | fail) only [push_cast, if_pos, decide_eq_true, decide_eq_false, h1, wr_id, wr_u8, simprocAttr, -Nat.reduceSubDiff]))
    rw [hM]
  by_cases h2 : b.toNat ≤ 57
  rotate_left
  · rw [if_neg (by omega)] at hM
    (simp -dsimp (disch := first | omega | (simp only [h1, h2, wr_id, wr_u8, List.length_cons, List.length_nil, List.length_map, List.length_append, List.length_take, List.length_drop, List.length_replicate, List.length_set, mkG_len] <;> omega) | fail) only [push_cast, if_pos, decide_eq_true, decide_eq_false, h1, h2, wr_id, wr_u8, simprocAttr, -Nat.reduceSubDiff]) <;> (repeat (refine (aw_draw (by kernel_rfl)).2 ?_; simp -dsimp (disch := first | omega | (simp only [h1, h2, wr_id, wr_u8, List.length_cons, List.length_nil, List.length_map, List.length_append, List.length_take, List.length_drop, List.length_replicate, List.length_set, mkG_len] <;> omega) | fail) only [push_cast, if_pos, decide_eq_true, decide_eq_false, h1, h2, wr_id, wr_u8, simprocAttr, -Nat.reduceSubDiff]))
    rw [hM]
  rw [if_pos ⟨h1, h2⟩] at hM
  have e : wr .u8 ((b.toNat : Int) - 48) = (b.toNat : Int) - 48 := by rw [wr_u8]; omega
  (simp -dsimp (disch := first | omega | (simp only [h1, h2, e, wr_id, List.length_cons, List.length_nil, List.length_map, List.length_append, List.length_take, List.length_drop, List.length_replicate, List.length_set, mkG_len] <;> omega) | fail) only [push_cast, if_pos, decide_eq_true, decide_eq_false, h1, h2, e, wr_id, simprocAttr, -Nat.reduceSubDiff]) <;> (repeat (refine (aw_draw (by kernel_rfl)).2 ?_; simp -dsimp (disch := first | omega | (simp only [h1, h2, e, wr_id, List.length_cons, List.length_nil, List.length_map, List.length_append, List.length_take, List.length_drop, List.length_replicate, List.length_set, mkG_len] <;> omega) | fail) only [push_cast, if_pos, decide_eq_true, decide_eq_false, h1, h2, e, wr_id, simprocAttr, -Nat.reduceSubDiff]))
  rw [hM]
def E96 : Env := { T := T0, kp := look [(0, [0]), (1, [0]), (2, [0, 3]), (3, []), (4, [0, 3]), (5, [0, 3, 4]), (6, [0, 3, 4]), (7, [0, 3, 4]), (8, []), (9, [0, 3, 4]), (10, [0, 3]), (11, []), (12, [3])] }
attribute [local push_cast] E96
set_option maxHeartbeats 1000000 in
theorem l3Number (t : Str) (ht : t.size ≤ 100000000) : Does Tryz.prog 96 [.sc (.string t)] (.sc (.int .i64 (numB (bt t))), []) := by
  refine does_of (E := E96) (rs := [.tmp 2]) (lent := []) tOk rfl Tryz.func96 rfl (by decide) rfl rfl (Nat.le_of_ble_eq_true rfl) (Nat.le_of_ble_eq_true rfl) ?_
  obtain ⟨M, hM⟩ : ∃ M, M = numB (bt t) := ⟨_, rfl⟩
  rw [← hM]
  unfold numB at hM
  rw [bt_len] at hM
  by_cases h1 : t.size < 1
  · rw [if_pos (.inl h1)] at hM
    (simp -dsimp (disch := first | omega | (simp only [h1, List.length_cons, List.length_nil, List.length_map, List.length_append, List.length_take, List.length_drop, List.length_replicate, List.length_set, mkG_len] <;> omega) | fail) only [push_cast, if_pos, decide_eq_true, decide_eq_false, h1, simprocAttr, -Nat.reduceSubDiff]) <;> (repeat (refine (aw_draw (by kernel_rfl)).2 ?_; simp -dsimp (disch := first | omega | (simp only [h1, List.length_cons, List.length_nil, List.length_map, List.length_append, List.length_take, List.length_drop, List.length_replicate, List.length_set, mkG_len] <;> omega) | fail) only [push_cast, if_pos, decide_eq_true, decide_eq_false, h1, simprocAttr, -Nat.reduceSubDiff]))
    rw [hM]
  by_cases h2 : 4 < t.size
  · rw [if_pos (.inr h2)] at hM
    (simp -dsimp (disch := first | omega | (simp only [h1, h2, List.length_cons, List.length_nil, List.length_map, List.length_append, List.length_take, List.length_drop, List.length_replicate, List.length_set, mkG_len] <;> omega) | fail) only [push_cast, if_pos, decide_eq_true, decide_eq_false, h1, h2, simprocAttr, -Nat.reduceSubDiff]) <;> (repeat (refine (aw_draw (by kernel_rfl)).2 ?_; simp -dsimp (disch := first | omega | (simp only [h1, h2, List.length_cons, List.length_nil, List.length_map, List.length_append, List.length_take, List.length_drop, List.length_replicate, List.length_set, mkG_len] <;> omega) | fail) only [push_cast, if_pos, decide_eq_true, decide_eq_false, h1, h2, simprocAttr, -Nat.reduceSubDiff]))
    rw [hM]
  rw [if_neg (by omega)] at hM
  (simp -dsimp (disch := first | omega | (simp only [h1, h2, List.length_cons, List.length_nil, List.length_map, List.length_append, List.length_take, List.length_drop, List.length_replicate, List.length_set, mkG_len] <;> omega) | fail) only [push_cast, if_pos, decide_eq_true, decide_eq_false, h1, h2, simprocAttr, -Nat.reduceSubDiff]) <;> (repeat (refine (aw_draw (by kernel_rfl)).2 ?_; simp -dsimp (disch := first | omega | (simp only [h1, h2, List.length_cons, List.length_nil, List.length_map, List.length_append, List.length_take, List.length_drop, List.length_replicate, List.length_set, mkG_len] <;> omega) | fail) only [push_cast, if_pos, decide_eq_true, decide_eq_false, h1, h2, simprocAttr, -Nat.reduceSubDiff]))
  refine loop_ind (α := Nat × Nat) (fun q => q.1 ≤ t.size ∧ q.2 + 1 ≤ 10 ^ q.1 ∧ Lib.decFrom q.2 ((bt t).drop q.1) = Lib.decFrom 0 (bt t))
    (fun q => ⟨[(0, .sc (.string t)), (3, .sc (.int .i64 q.2)), (4, .sc (.int .i64 q.1))], [], 1⟩) (fun q => t.size - q.1) (0, 0) ⟨Nat.zero_le _, by simp, rfl⟩ ?_ ?_
  · simp -dsimp (disch := first | omega | (simp only [List.length_cons, List.length_nil, List.length_map, List.length_append, List.length_take, List.length_drop, List.length_replicate, List.length_set, mkG_len] <;> omega) | fail) only [push_cast, if_pos, decide_eq_true, decide_eq_false, simprocAttr, -Nat.reduceSubDiff]
  rintro ⟨i, n⟩ ⟨hi, hn, hy⟩ ih
  replace hi : i ≤ t.size := hi
  replace hn : n + 1 ≤ 10 ^ i := hn
  replace hy : Lib.decFrom n ((bt t).drop i) = Lib.decFrom 0 (bt t) := hy
  have hn4 : n ≤ 10000 := by
    have : 10 ^ i ≤ 10 ^ 4 := Nat.pow_le_pow_right (by omega) (by omega)
    omega
  by_cases h : i < t.size
  · obtain ⟨x, hx⟩ := ex_get (by rw [bt_len]; exact h : i < (bt t).length)
    have hb := x.toNat_lt
    rw [drop_step hx, Lib.decFrom, Lib.digitVal] at hy
    have bad : ¬ (48 ≤ x.toNat ∧ x.toNat ≤ 57) → M = -1 := fun hc => by
      rw [if_neg hc] at hy
      rw [hM, ← hy]
    by_cases a1 : 48 ≤ x.toNat
    rotate_left
    · have hM := bad (by omega)
      (simp -dsimp (disch := first | omega | (simp only [hx, a1, hM, List.length_cons, List.length_nil, List.length_map, List.length_append, List.length_take, List.length_drop, List.length_replicate, List.length_set, mkG_len] <;> omega) | fail) only [push_cast, if_pos, decide_eq_true, decide_eq_false, hx, a1, hM, simprocAttr, -Nat.reduceSubDiff]) <;> (repeat (refine (aw_draw (by kernel_rfl)).2 ?_; simp -dsimp (disch := first | omega | (simp only [hx, a1, hM, List.length_cons, List.length_nil, List.length_map, List.length_append, List.length_take, List.length_drop, List.length_replicate, List.length_set, mkG_len] <;> omega) | fail) only [push_cast, if_pos, decide_eq_true, decide_eq_false, hx, a1, hM, simprocAttr, -Nat.reduceSubDiff]))
    by_cases a2 : x.toNat ≤ 57
    rotate_left
    · have hM := bad (by omega)
      (simp -dsimp (disch := first | omega | (simp only [hx, a1, a2, hM, List.length_cons, List.length_nil, List.length_map, List.length_append, List.length_take, List.length_drop, List.length_replicate, List.length_set, mkG_len] <;> omega) | fail) only [push_cast, if_pos, decide_eq_true, decide_eq_false, hx, a1, a2, hM, simprocAttr, -Nat.reduceSubDiff]) <;> (repeat (refine (aw_draw (by kernel_rfl)).2 ?_; simp -dsimp (disch := first | omega | (simp only [hx, a1, a2, hM, List.length_cons, List.length_nil, List.length_map, List.length_append, List.length_take, List.length_drop, List.length_replicate, List.length_set, mkG_len] <;> omega) | fail) only [push_cast, if_pos, decide_eq_true, decide_eq_false, hx, a1, a2, hM, simprocAttr, -Nat.reduceSubDiff]))
    rw [if_pos ⟨a1, a2⟩] at hy
    simp only at hy
    have e : wr .u8 ((x.toNat : Int) - 48) = (x.toNat : Int) - 48 := by rw [wr_u8]; omega
    have e2 : ((x.toNat : Int) - 48) = ((x.toNat - 48 : Nat) : Int) := by omega
    obtain ⟨d, hd⟩ : ∃ d, d = x.toNat - 48 := ⟨_, rfl⟩
    rw [← hd] at e2 hy
    have hd9 : d ≤ 9 := by omega
    rw [e2] at e
    clear hd
    (simp -dsimp (disch := first | omega | (simp only [hx, a1, a2, e2, wr_id, List.length_cons, List.length_nil, List.length_map, List.length_append, List.length_take, List.length_drop, List.length_replicate, List.length_set, mkG_len] <;> omega) | fail) only [push_cast, if_pos, decide_eq_true, decide_eq_false, hx, a1, a2, e2, wr_id, simprocAttr, -Nat.reduceSubDiff]) <;> (repeat (refine (aw_draw (by kernel_rfl)).2 ?_; simp -dsimp (disch := first | omega | (simp only [hx, a1, a2, e2, wr_id, List.length_cons, List.length_nil, List.length_map, List.length_append, List.length_take, List.length_drop, List.length_replicate, List.length_set, mkG_len] <;> omega) | fail) only [push_cast, if_pos, decide_eq_true, decide_eq_false, hx, a1, a2, e2, wr_id, simprocAttr, -Nat.reduceSubDiff]))
    refine ih (i + 1, n * 10 + d) _ (by show t.size - (i + 1) < t.size - i; omega) ⟨h, by show n * 10 + d + 1 ≤ 10 ^ (i + 1); rw [Nat.pow_succ]; omega, hy⟩ ?_
    simp -dsimp (disch := first | omega | (simp only [wr_id, e, e2, List.length_cons, List.length_nil, List.length_map, List.length_append, List.length_take, List.length_drop, List.length_replicate, List.length_set, mkG_len] <;> omega) | fail) only [push_cast, if_pos, decide_eq_true, decide_eq_false, wr_id, e, e2, simprocAttr, -Nat.reduceSubDiff]
  · have hi : i = t.size := by omega
    have hd : (bt t).drop i = [] := List.drop_eq_nil_of_le (by rw [bt_len]; omega)
    rw [hd, Lib.decFrom] at hy
    rw [← hy] at hM
    simp only at hM
    (simp -dsimp (disch := first | omega | (simp only [h, List.length_cons, List.length_nil, List.length_map, List.length_append, List.length_take, List.length_drop, List.length_replicate, List.length_set, mkG_len] <;> omega) | fail) only [push_cast, if_pos, decide_eq_true, decide_eq_false, h, simprocAttr, -Nat.reduceSubDiff]) <;> (repeat (refine (aw_draw (by kernel_rfl)).2 ?_; simp -dsimp (disch := first | omega | (simp only [h, List.length_cons, List.length_nil, List.length_map, List.length_append, List.length_take, List.length_drop, List.length_replicate, List.length_set, mkG_len] <;> omega) | fail) only [push_cast, if_pos, decide_eq_true, decide_eq_false, h, simprocAttr, -Nat.reduceSubDiff]))
    refine callC (l3Dec n (by omega)) ?_
    by_cases e : Lib.decDigits n = bt t
    · rw [if_pos e] at hM
      have e2 : stB (Lib.decDigits n) = t := by rw [e, stB_bt]
      (simp -dsimp (disch := first | omega | (simp only [e2, List.length_cons, List.length_nil, List.length_map, List.length_append, List.length_take, List.length_drop, List.length_replicate, List.length_set, mkG_len] <;> omega) | fail) only [push_cast, if_pos, decide_eq_true, decide_eq_false, e2, simprocAttr, -Nat.reduceSubDiff]) <;> (repeat (refine (aw_draw (by kernel_rfl)).2 ?_; simp -dsimp (disch := first | omega | (simp only [e2, List.length_cons, List.length_nil, List.length_map, List.length_append, List.length_take, List.length_drop, List.length_replicate, List.length_set, mkG_len] <;> omega) | fail) only [push_cast, if_pos, decide_eq_true, decide_eq_false, e2, simprocAttr, -Nat.reduceSubDiff]))
      rw [hM]
    · rw [if_neg e] at hM
      have e2 : ¬ stB (Lib.decDigits n) = t := fun q => e (by rw [← q, bt_stB])
      (simp -dsimp (disch := first | omega | (simp only [e2, List.length_cons, List.length_nil, List.length_map, List.length_append, List.length_take, List.length_drop, List.length_replicate, List.length_set, mkG_len] <;> omega) | fail) only [push_cast, if_pos, decide_eq_true, decide_eq_false, e2, simprocAttr, -Nat.reduceSubDiff]) <;> (repeat (refine (aw_draw (by kernel_rfl)).2 ?_; simp -dsimp (disch := first | omega | (simp only [e2, List.length_cons, List.length_nil, List.length_map, List.length_append, List.length_take, List.length_drop, List.length_replicate, List.length_set, mkG_len] <;> omega) | fail) only [push_cast, if_pos, decide_eq_true, decide_eq_false, e2, simprocAttr, -Nat.reduceSubDiff]))
      rw [hM]
end Go.Proofs.YtgkncgiglmdnaaaGreatDoor.Mx

/- Lists' texts read again: the reference. -/
namespace Go.Proofs.YtgkncgiglmdnaaaGreatDoor.Mx
set_option linter.all false
open Go Go.RowKit Go.Proofs
set_option linter.unusedSimpArgs false
theorem digI_r (b : UInt8) : -87 ≤ digI b ∧ digI b ≤ 255 := by
  unfold digI
  have := b.toNat_lt
  split <;> omega
def E97 : Env := { T := T0, kp := look [(0, [0]), (1, [0]), (2, [0, 3]), (3, [0, 3, 4]), (4, [0, 3, 4]), (5, [0, 3, 4]), (6, [3])], dp := look2 [(5, [[], [], [], [1, 2], [1, 2, 3], [1, 2, 3, 4], [], [], [7], [6, 7, 8], [1, 2, 3, 4, 6, 7, 8, 9], [1, 2, 3, 4, 5, 6, 7, 8, 9, 10], [1, 2, 3, 4, 5, 6, 7, 8, 9, 10, 11], [1, 2, 3, 4, 5, 6, 7, 8, 9, 10, 11, 12], [0, 1, 2, 3, 4, 5, 6, 7, 8, 9, 10, 11, 12, 13], [0, 1, 2, 3, 4, 5, 6, 7, 8, 9, 10, 11, 12, 13, 14]])] }
attribute [local push_cast] E97
set_option maxRecDepth 20000 in
set_option maxHeartbeats 1000000 in
theorem l3Bytes (t : Str) (ht : t.size ≤ 100000000) : Does Tryz.prog 97 [.sc (.string t)] (.sc (.string (stB (unhex (bt t)))), []) := by
  refine does_of (E := E97) (rs := [.tmp 2]) (lent := []) tOk rfl Tryz.func97 rfl (by decide) rfl rfl (Nat.le_of_ble_eq_true rfl) (Nat.le_of_ble_eq_true rfl) ?_
  obtain ⟨M, hM⟩ : ∃ M, M = unhex (bt t) := ⟨_, rfl⟩
  rw [← hM]
  (simp -dsimp (disch := first | omega | (simp only [List.length_cons, List.length_nil, List.length_map, List.length_append, List.length_take, List.length_drop, List.length_replicate, List.length_set, mkG_len] <;> omega) | fail) only [push_cast, if_pos, decide_eq_true, decide_eq_false, simprocAttr, -Nat.reduceSubDiff]) <;> (repeat (refine (aw_draw (by kernel_rfl)).2 ?_; simp -dsimp (disch := first | omega | (simp only [List.length_cons, List.length_nil, List.length_map, List.length_append, List.length_take, List.length_drop, List.length_replicate, List.length_set, mkG_len] <;> omega) | fail) only [push_cast, if_pos, decide_eq_true, decide_eq_false, simprocAttr, -Nat.reduceSubDiff]))
  refine loop_ind (α := Nat × List UInt8) (fun q => q.1 ≤ t.size ∧ q.2.length ≤ q.1 ∧ q.2 ++ unhex ((bt t).drop q.1) = M)
    (fun q => ⟨[(0, .sc (.string t)), (3, .ow 1 0 q.2.length), (4, .sc (.int .i64 q.1))], [(1, .ar 1 0 (q.2.map byteRow))], 2⟩) (fun q => t.size - q.1) (0, []) ⟨Nat.zero_le _, Nat.le_refl _, by simp [hM]⟩ ?_ ?_
  · simp -dsimp (disch := first | omega | (simp only [List.length_cons, List.length_nil, List.length_map, List.length_append, List.length_take, List.length_drop, List.length_replicate, List.length_set, mkG_len] <;> omega) | fail) only [push_cast, if_pos, decide_eq_true, decide_eq_false, simprocAttr, -Nat.reduceSubDiff]
  rintro ⟨i, B⟩ ⟨hi, hB, hy⟩ ih
  replace hi : i ≤ t.size := hi
  replace hB : B.length ≤ i := hB
  replace hy : B ++ unhex ((bt t).drop i) = M := hy
  by_cases h : i + 1 < t.size
  · obtain ⟨x, hx⟩ := ex_get (by rw [bt_len]; omega : i < (bt t).length)
    obtain ⟨y, hz⟩ := ex_get (by rw [bt_len]; exact h : i + 1 < (bt t).length)
    rw [drop_step hx, drop_step hz, unhex] at hy
    have rx := digI_r x
    have ry := digI_r y
    have e1 : ((i : Int) + 1).toNat = i + 1 := by omega
    have e4 := byteRow_of (v := (16 * digI x + digI y) % 256) (by omega) (by omega)
    have e6 : (i : Int) + 1 + 1 = i + 2 := by omega
    have e5 : wr .u8 (16 * digI x + digI y) = (16 * digI x + digI y) % 256 := wr_u8 _
    (simp -dsimp (disch := first | omega | (simp only [h, hx, hz, e1, wr_id, List.length_cons, List.length_nil, List.length_map, List.length_append, List.length_take, List.length_drop, List.length_replicate, List.length_set, mkG_len] <;> omega) | fail) only [push_cast, if_pos, decide_eq_true, decide_eq_false, h, hx, hz, e1, wr_id, simprocAttr, -Nat.reduceSubDiff]) <;> (repeat (refine (aw_draw (by kernel_rfl)).2 ?_; simp -dsimp (disch := first | omega | (simp only [h, hx, hz, e1, wr_id, List.length_cons, List.length_nil, List.length_map, List.length_append, List.length_take, List.length_drop, List.length_replicate, List.length_set, mkG_len] <;> omega) | fail) only [push_cast, if_pos, decide_eq_true, decide_eq_false, h, hx, hz, e1, wr_id, simprocAttr, -Nat.reduceSubDiff]))
    refine callC (l3Digit x) ?_
    (simp -dsimp (disch := first | omega | (simp only [h, hx, hz, e1, wr_id, List.length_cons, List.length_nil, List.length_map, List.length_append, List.length_take, List.length_drop, List.length_replicate, List.length_set, mkG_len] <;> omega) | fail) only [push_cast, if_pos, decide_eq_true, decide_eq_false, h, hx, hz, e1, wr_id, simprocAttr, -Nat.reduceSubDiff]) <;> (repeat (refine (aw_draw (by kernel_rfl)).2 ?_; simp -dsimp (disch := first | omega | (simp only [h, hx, hz, e1, wr_id, List.length_cons, List.length_nil, List.length_map, List.length_append, List.length_take, List.length_drop, List.length_replicate, List.length_set, mkG_len] <;> omega) | fail) only [push_cast, if_pos, decide_eq_true, decide_eq_false, h, hx, hz, e1, wr_id, simprocAttr, -Nat.reduceSubDiff]))
    refine callC (l3Digit y) ?_
    (simp -dsimp (disch := first | omega | (simp only [h, hx, hz, e1, e5, wr_id, List.length_cons, List.length_nil, List.length_map, List.length_append, List.length_take, List.length_drop, List.length_replicate, List.length_set, mkG_len] <;> omega) | fail) only [push_cast, if_pos, decide_eq_true, decide_eq_false, h, hx, hz, e1, e5, wr_id, simprocAttr, -Nat.reduceSubDiff]) <;> (repeat (refine (aw_draw (by kernel_rfl)).2 ?_; simp -dsimp (disch := first | omega | (simp only [h, hx, hz, e1, e5, wr_id, List.length_cons, List.length_nil, List.length_map, List.length_append, List.length_take, List.length_drop, List.length_replicate, List.length_set, mkG_len] <;> omega) | fail) only [push_cast, if_pos, decide_eq_true, decide_eq_false, h, hx, hz, e1, e5, wr_id, simprocAttr, -Nat.reduceSubDiff]))
    refine ih (i + 2, B ++ [UInt8.ofNat ((16 * digI x + digI y) % 256).toNat]) _ (by show t.size - (i + 2) < t.size - i; omega) ⟨by show i + 2 ≤ t.size; omega, by simp only [List.length_append, List.length_cons, List.length_nil]; omega, by rw [← hy]; simp⟩ ?_
    simp -dsimp (disch := first | omega | (simp only [wr_id, List.map_append, List.length_append, List.length_cons, List.length_nil, List.map_cons, List.map_nil, ← e4, e6, List.length_cons, List.length_nil, List.length_map, List.length_append, List.length_take, List.length_drop, List.length_replicate, List.length_set, mkG_len] <;> omega) | fail) only [push_cast, if_pos, decide_eq_true, decide_eq_false, wr_id, List.map_append, List.length_append, List.length_cons, List.length_nil, List.map_cons, List.map_nil, ← e4, e6, simprocAttr, -Nat.reduceSubDiff]
  · have hd : unhex ((bt t).drop i) = [] := by
      have hl : ((bt t).drop i).length ≤ 1 := by rw [List.length_drop, bt_len]; omega
      match (bt t).drop i, hl with
      | [], _ => rfl
      | [_], _ => rfl
      | _ :: _ :: _, hl => simp at hl
    rw [hd, List.append_nil] at hy
    subst hy
    (simp -dsimp (disch := first | omega | (simp only [h, wr_id, List.length_cons, List.length_nil, List.length_map, List.length_append, List.length_take, List.length_drop, List.length_replicate, List.length_set, mkG_len] <;> omega) | fail) only [push_cast, if_pos, decide_eq_true, decide_eq_false, h, wr_id, simprocAttr, -Nat.reduceSubDiff]) <;> (repeat (refine (aw_draw (by kernel_rfl)).2 ?_; simp -dsimp (disch := first | omega | (simp only [h, wr_id, List.length_cons, List.length_nil, List.length_map, List.length_append, List.length_take, List.length_drop, List.length_replicate, List.length_set, mkG_len] <;> omega) | fail) only [push_cast, if_pos, decide_eq_true, decide_eq_false, h, wr_id, simprocAttr, -Nat.reduceSubDiff]))
    rfl
theorem cut_head {c : UInt8} : ∀ (r cur : List UInt8), ∃ q L, cutF c [] cur r = (cur ++ q) :: L
  | [], cur => ⟨[], [], by simp [cutF]⟩
  | x :: r, cur => by
    rw [cutF]
    split
    · exact ⟨[], cutF c [] [] r, by rw [cutF_acc]; simp⟩
    · obtain ⟨q, L, h⟩ := cut_head r (cur ++ [x])
      exact ⟨x :: q, L, by rw [h]; simp⟩
theorem cut_size {s : List UInt8} (h : s.take 5 = sizB) : ∃ q L, cutL 10 s = (sizB ++ q) :: L := by
  have e : s = sizB ++ s.drop 5 := by rw [← h, List.take_append_drop]
  unfold cutL
  rw [e, cutF_skip (by decide), List.nil_append]
  exact cut_head _ _
theorem sizS_iff {t : Str} (h : 6 ≤ t.size) : t.extract 0 5 = ⟨#[115, 105, 122, 101, 32]⟩ ↔ (bt t).take 5 = sizB := by
  rw [ext_cur, show curB t 0 5 = (bt t).take 5 by unfold curB; rw [List.drop_zero]]
  have e : (⟨#[115, 105, 122, 101, 32]⟩ : ByteArray) = stB sizB := rfl
  rw [e]
  exact ⟨fun q => by have := congrArg bt q; rwa [bt_stB, bt_stB] at this, fun q => by rw [q]⟩
def E25 : Env := { T := T0, kp := look [(0, [0, 1]), (1, [0, 1, 4]), (2, [4]), (3, [0, 1, 4]), (4, [0, 1, 4, 6]), (5, [0, 1, 4, 6, 7]), (6, [0, 1, 4, 6, 7, 8]), (7, [0, 1, 4, 6, 7, 8]), (8, [0, 1, 4, 6, 7, 8]), (9, [0, 1, 4, 7]), (10, [4]), (11, [4, 7])], dp := look2 [(8, [[], [0], [], [], [2, 3], [2, 3, 4], [2, 3, 4, 5], [2, 3, 4, 5, 6], [0, 1, 2, 3, 4, 5, 6, 7], [0, 1, 2, 3, 4, 5, 6, 7, 8], [0, 1, 2, 3, 4, 5, 6, 7, 8, 9]])] }
attribute [local push_cast] E25
set_option maxRecDepth 20000 in
set_option maxHeartbeats 1000000 in
theorem specReadList (t : Str) (w : Int) (ht : t.size ≤ 100000000) : Does Tryz.prog 25 [.sc (.string t), .sc (.int .i64 w)] (.tu [.ag (lstC true (readL t w).1), .sc (.bool (readL t w).2)], []) := by
  refine does_of (E := E25) (rs := [.cell 4 27, .tmp 5]) (lent := []) tOk rfl Tryz.func25 rfl (by decide) rfl rfl (Nat.le_of_ble_eq_true rfl) (Nat.le_of_ble_eq_true rfl) ?_
  obtain ⟨M, hM⟩ : ∃ M, M = readL t w := ⟨_, rfl⟩
  rw [← hM]
  by_cases h1 : t.size < 6
  · rw [read_out (.inl h1)] at hM
    subst hM
    (simp -dsimp (disch := first | omega | (simp only [h1, List.length_cons, List.length_nil, List.length_map, List.length_append, List.length_take, List.length_drop, List.length_replicate, List.length_set, mkG_len] <;> omega) | fail) only [push_cast, if_pos, decide_eq_true, decide_eq_false, h1, simprocAttr, -Nat.reduceSubDiff]) <;> (repeat (refine (aw_draw (by kernel_rfl)).2 ?_; simp -dsimp (disch := first | omega | (simp only [h1, List.length_cons, List.length_nil, List.length_map, List.length_append, List.length_take, List.length_drop, List.length_replicate, List.length_set, mkG_len] <;> omega) | fail) only [push_cast, if_pos, decide_eq_true, decide_eq_false, h1, simprocAttr, -Nat.reduceSubDiff]))
  by_cases h2 : 7000 < t.size
  · rw [read_out (.inr (.inl h2))] at hM
    subst hM
    (simp -dsimp (disch := first | omega | (simp only [h1, h2, List.length_cons, List.length_nil, List.length_map, List.length_append, List.length_take, List.length_drop, List.length_replicate, List.length_set, mkG_len] <;> omega) | fail) only [push_cast, if_pos, decide_eq_true, decide_eq_false, h1, h2, simprocAttr, -Nat.reduceSubDiff]) <;> (repeat (refine (aw_draw (by kernel_rfl)).2 ?_; simp -dsimp (disch := first | omega | (simp only [h1, h2, List.length_cons, List.length_nil, List.length_map, List.length_append, List.length_take, List.length_drop, List.length_replicate, List.length_set, mkG_len] <;> omega) | fail) only [push_cast, if_pos, decide_eq_true, decide_eq_false, h1, h2, simprocAttr, -Nat.reduceSubDiff]))
  have hsz := sizS_iff (t := t) (by omega)
  by_cases h3 : t.extract 0 5 = ⟨#[115, 105, 122, 101, 32]⟩
  rotate_left
  · rw [read_out (.inr (.inr fun q => h3 (hsz.2 q)))] at hM
    subst hM
    (simp -dsimp (disch := first | omega | (simp only [h1, h2, h3, List.length_cons, List.length_nil, List.length_map, List.length_append, List.length_take, List.length_drop, List.length_replicate, List.length_set, mkG_len] <;> omega) | fail) only [push_cast, if_pos, decide_eq_true, decide_eq_false, h1, h2, h3, simprocAttr, -Nat.reduceSubDiff]) <;> (repeat (refine (aw_draw (by kernel_rfl)).2 ?_; simp -dsimp (disch := first | omega | (simp only [h1, h2, h3, List.length_cons, List.length_nil, List.length_map, List.length_append, List.length_take, List.length_drop, List.length_replicate, List.length_set, mkG_len] <;> omega) | fail) only [push_cast, if_pos, decide_eq_true, decide_eq_false, h1, h2, h3, simprocAttr, -Nat.reduceSubDiff]))
  obtain ⟨q, L, hc⟩ := cut_size (hsz.1 h3)
  rw [read_spec (by omega)] at hM
  obtain ⟨P, hP⟩ : ∃ P, P = parseL t := ⟨_, rfl⟩
  rw [← hP] at hM
  unfold parseL at hP
  have hLn := cutF_len 10 (bt t) [] []
  have hLs := cutF_sz 10 (bt t) [] [] t.size (by simp) (by rw [bt_len]; simp)
  rw [show cutF 10 [] [] (bt t) = cutL 10 (bt t) from rfl, hc] at hLn hLs
  rw [bt_len, List.length_cons, List.length_nil] at hLn
  rw [hc] at hP
  have hP : P = ⟨numB q, (L.take (L.length - 1)).map fun x => stB (unhex x)⟩ := by
    rw [hP]
    have e1 : ((((sizB ++ q) :: L).getD 0 []).drop 5) = q := List.drop_left' rfl
    rw [e1]
    simp
  have hq0 := hLs _ (List.mem_cons_self ..)
  have hq5 : (sizB ++ q).length = 5 + q.length := by rw [List.length_append]; rfl
  (simp -dsimp (disch := first | omega | (simp only [h1, h2, h3, List.length_cons, List.length_nil, List.length_map, List.length_append, List.length_take, List.length_drop, List.length_replicate, List.length_set, mkG_len] <;> omega) | fail) only [push_cast, if_pos, decide_eq_true, decide_eq_false, h1, h2, h3, simprocAttr, -Nat.reduceSubDiff]) <;> (repeat (refine (aw_draw (by kernel_rfl)).2 ?_; simp -dsimp (disch := first | omega | (simp only [h1, h2, h3, List.length_cons, List.length_nil, List.length_map, List.length_append, List.length_take, List.length_drop, List.length_replicate, List.length_set, mkG_len] <;> omega) | fail) only [push_cast, if_pos, decide_eq_true, decide_eq_false, h1, h2, h3, simprocAttr, -Nat.reduceSubDiff]))
  refine callC (l3Cut t ht) ?_
  rw [hc]
  have hx5 : (stB (sizB ++ q)).size = 5 + q.length := by rw [stB_size, hq5]
  have hxe : (stB (sizB ++ q)).extract 5 (5 + q.length) = stB q := by
    rw [ext_cur]
    unfold curB
    rw [bt_stB, List.take_of_length_le (by omega), show (sizB ++ q).drop 5 = q from List.drop_left' rfl]
  have hxi : 5 + ((5 : Int) + (q.length : Int) - 5).toNat = 5 + q.length := by omega
  (simp -dsimp (disch := first | omega | (simp only [hx5, hxe, hxi, List.length_cons, List.length_nil, List.length_map, List.length_append, List.length_take, List.length_drop, List.length_replicate, List.length_set, mkG_len] <;> omega) | fail) only [push_cast, if_pos, decide_eq_true, decide_eq_false, hx5, hxe, hxi, simprocAttr, -Nat.reduceSubDiff]) <;> (repeat (refine (aw_draw (by kernel_rfl)).2 ?_; simp -dsimp (disch := first | omega | (simp only [hx5, hxe, hxi, List.length_cons, List.length_nil, List.length_map, List.length_append, List.length_take, List.length_drop, List.length_replicate, List.length_set, mkG_len] <;> omega) | fail) only [push_cast, if_pos, decide_eq_true, decide_eq_false, hx5, hxe, hxi, simprocAttr, -Nat.reduceSubDiff]))
  refine callC (l3Number (stB q) (by rw [stB_size]; omega)) ?_
  rw [bt_stB]
  (simp -dsimp (disch := first | omega | (simp only [hx5, hxe, hxi, List.length_cons, List.length_nil, List.length_map, List.length_append, List.length_take, List.length_drop, List.length_replicate, List.length_set, mkG_len] <;> omega) | fail) only [push_cast, if_pos, decide_eq_true, decide_eq_false, hx5, hxe, hxi, simprocAttr, -Nat.reduceSubDiff]) <;> (repeat (refine (aw_draw (by kernel_rfl)).2 ?_; simp -dsimp (disch := first | omega | (simp only [hx5, hxe, hxi, List.length_cons, List.length_nil, List.length_map, List.length_append, List.length_take, List.length_drop, List.length_replicate, List.length_set, mkG_len] <;> omega) | fail) only [push_cast, if_pos, decide_eq_true, decide_eq_false, hx5, hxe, hxi, simprocAttr, -Nat.reduceSubDiff]))
  refine loop_ind (α := Nat) (fun j => j ≤ L.length - 1)
    (fun j => ⟨[(0, .sc (.string t)), (1, .sc (.int .i64 w)), (4, .pt 1 0 0), (6, .ow 3 0 (L.length + 1)), (7, .pt 4 0 0), (8, .sc (.int .i64 (j + 1)))],
      [(1, .bx [.sc (.int .i64 0), .ow 2 0 0]), (2, .ar 1 0 []), (3, .ar 1 0 (strR (stB (sizB ++ q)) :: (L.map stB).map strR)), (4, .bx [.sc (.int .i64 (numB q)), .ow 5 0 ((L.take j).map fun x => stB (unhex x)).length]), (5, .ar 1 0 (((L.take j).map fun x => stB (unhex x)).map strR))], 6⟩) (fun j => L.length - j) 0 (Nat.zero_le _) ?_ ?_
  · simp -dsimp (disch := first | omega | (simp only [List.take_zero, List.map_nil, List.length_cons, List.length_nil, List.length_map, List.length_append, List.length_take, List.length_drop, List.length_replicate, List.length_set, mkG_len] <;> omega) | fail) only [push_cast, if_pos, decide_eq_true, decide_eq_false, List.take_zero, List.map_nil, simprocAttr, -Nat.reduceSubDiff]
  intro j hj ih
  have hjl : ((L.take j).map fun x => stB (unhex x)).length = j := by rw [List.length_map, List.length_take]; omega
  by_cases h : j + 1 < L.length
  · obtain ⟨x, hx⟩ := ex_get (show j < L.length by omega)
    have hxs := hLs x (List.mem_cons_of_mem _ (List.mem_of_getElem? hx))
    have hst : ((L.take (j + 1)).map fun x => stB (unhex x)) = ((L.take j).map fun x => stB (unhex x)) ++ [stB (unhex x)] := by rw [take_step hx, List.map_append]; rfl
    have e1 : ((j : Int) + 1).toNat = j + 1 := by omega
    obtain ⟨D, hD⟩ : ∃ D, D = ((L.take j).map fun x => stB (unhex x)) := ⟨_, rfl⟩
    rw [← hD] at hjl hst ⊢
    (simp -dsimp (disch := first | omega | (simp only [h, hx, e1, wr_id, List.length_cons, List.length_nil, List.length_map, List.length_append, List.length_take, List.length_drop, List.length_replicate, List.length_set, mkG_len] <;> omega) | fail) only [push_cast, if_pos, decide_eq_true, decide_eq_false, h, hx, e1, wr_id, simprocAttr, -Nat.reduceSubDiff]) <;> (repeat (refine (aw_draw (by kernel_rfl)).2 ?_; simp -dsimp (disch := first | omega | (simp only [h, hx, e1, wr_id, List.length_cons, List.length_nil, List.length_map, List.length_append, List.length_take, List.length_drop, List.length_replicate, List.length_set, mkG_len] <;> omega) | fail) only [push_cast, if_pos, decide_eq_true, decide_eq_false, h, hx, e1, wr_id, simprocAttr, -Nat.reduceSubDiff]))
    refine callC (l3Bytes (stB x) (by rw [stB_size]; omega)) ?_
    rw [bt_stB]
    (simp -dsimp (disch := first | omega | (simp only [h, hx, e1, wr_id, List.length_cons, List.length_nil, List.length_map, List.length_append, List.length_take, List.length_drop, List.length_replicate, List.length_set, mkG_len] <;> omega) | fail) only [push_cast, if_pos, decide_eq_true, decide_eq_false, h, hx, e1, wr_id, simprocAttr, -Nat.reduceSubDiff]) <;> (repeat (refine (aw_draw (by kernel_rfl)).2 ?_; simp -dsimp (disch := first | omega | (simp only [h, hx, e1, wr_id, List.length_cons, List.length_nil, List.length_map, List.length_append, List.length_take, List.length_drop, List.length_replicate, List.length_set, mkG_len] <;> omega) | fail) only [push_cast, if_pos, decide_eq_true, decide_eq_false, h, hx, e1, wr_id, simprocAttr, -Nat.reduceSubDiff]))
    refine ih (j + 1) _ (by omega) (by omega) ?_
    rw [hst]
    simp -dsimp (disch := first | omega | (simp only [wr_id, List.map_append, List.length_append, List.length_cons, List.length_nil, List.map_cons, List.map_nil, List.length_cons, List.length_nil, List.length_map, List.length_append, List.length_take, List.length_drop, List.length_replicate, List.length_set, mkG_len] <;> omega) | fail) only [push_cast, if_pos, decide_eq_true, decide_eq_false, wr_id, List.map_append, List.length_append, List.length_cons, List.length_nil, List.map_cons, List.map_nil, simprocAttr, -Nat.reduceSubDiff]
  · have hj : j = L.length - 1 := by omega
    have hPj : P = ⟨numB q, (L.take j).map fun x => stB (unhex x)⟩ := by rw [hP, hj]
    have hPS : ((L.take j).map fun x => stB (unhex x)) = P.S := by rw [hPj]
    have hPz : numB q = P.sz := by rw [hPj]
    rw [hPS, hPz]
    rw [hPS] at hjl
    (simp -dsimp (disch := first | omega | (simp only [h, wr_id, List.length_cons, List.length_nil, List.length_map, List.length_append, List.length_take, List.length_drop, List.length_replicate, List.length_set, mkG_len] <;> omega) | fail) only [push_cast, if_pos, decide_eq_true, decide_eq_false, h, wr_id, simprocAttr, -Nat.reduceSubDiff]) <;> (repeat (refine (aw_draw (by kernel_rfl)).2 ?_; simp -dsimp (disch := first | omega | (simp only [h, wr_id, List.length_cons, List.length_nil, List.length_map, List.length_append, List.length_take, List.length_drop, List.length_replicate, List.length_set, mkG_len] <;> omega) | fail) only [push_cast, if_pos, decide_eq_true, decide_eq_false, h, wr_id, simprocAttr, -Nat.reduceSubDiff]))
    refine callC (specFormList P w (by omega)) ?_
    by_cases e : formL P w = t
    · rw [if_pos e] at hM
      subst hM
      (simp -dsimp (disch := first | omega | (simp only [e, List.length_cons, List.length_nil, List.length_map, List.length_append, List.length_take, List.length_drop, List.length_replicate, List.length_set, mkG_len] <;> omega) | fail) only [push_cast, if_pos, decide_eq_true, decide_eq_false, e, simprocAttr, -Nat.reduceSubDiff]) <;> (repeat (refine (aw_draw (by kernel_rfl)).2 ?_; simp -dsimp (disch := first | omega | (simp only [e, List.length_cons, List.length_nil, List.length_map, List.length_append, List.length_take, List.length_drop, List.length_replicate, List.length_set, mkG_len] <;> omega) | fail) only [push_cast, if_pos, decide_eq_true, decide_eq_false, e, simprocAttr, -Nat.reduceSubDiff]))
    · rw [if_neg e] at hM
      subst hM
      (simp -dsimp (disch := first | omega | (simp only [e, List.length_cons, List.length_nil, List.length_map, List.length_append, List.length_take, List.length_drop, List.length_replicate, List.length_set, mkG_len] <;> omega) | fail) only [push_cast, if_pos, decide_eq_true, decide_eq_false, e, simprocAttr, -Nat.reduceSubDiff]) <;> (repeat (refine (aw_draw (by kernel_rfl)).2 ?_; simp -dsimp (disch := first | omega | (simp only [e, List.length_cons, List.length_nil, List.length_map, List.length_append, List.length_take, List.length_drop, List.length_replicate, List.length_set, mkG_len] <;> omega) | fail) only [push_cast, if_pos, decide_eq_true, decide_eq_false, e, simprocAttr, -Nat.reduceSubDiff]))
end Go.Proofs.YtgkncgiglmdnaaaGreatDoor.Mx

/- Things «to» describe, «to» read, «to» build: drawn. -/
namespace Go.Proofs.YtgkncgiglmdnaaaGreatDoor.Mx
set_option linter.all false
open Go Go.RowKit Go.Proofs
set_option linter.unusedSimpArgs false
def tx0 (B : Int) (r : Ans) : Prop := ∃ t : Str, r = (.sc (.string t), []) ∧ (t.size : Int) ≤ B
theorem take_code {c : List Int} (hc : c.length ≤ 1048576) (hb : ∀ x ∈ c, 0 ≤ x ∧ x ≤ 255) : okCode (c.take 2000) := ⟨by rw [List.length_take]; omega, fun x hx => hb x (List.mem_of_mem_take hx)⟩
def E69 : Env := { T := T0, kp := look [(0, [0]), (1, [0]), (2, [3]), (3, [3]), (4, [3])], md := look3 [(2, 1, [1, 0]), (3, 1, [1, 0]), (4, 1, [1])] }
attribute [local push_cast] E69
set_option maxHeartbeats 1000000 in
theorem drawPieces (c : List Int) (hc : c.length ≤ 1048576) (hb : ∀ x ∈ c, 0 ≤ x ∧ x ≤ 255) : ∃ r, tx0 10000 r ∧ Does Tryz.prog 69 [.sl false 1 (c.map numR)] r := by
  refine does_ex (E := E69) (rs := [.tmp 2]) (lent := []) tOk rfl Tryz.func69 rfl (by decide) rfl rfl (Nat.le_of_ble_eq_true rfl) (Nat.le_of_ble_eq_true rfl) ?_
  (simp -dsimp (disch := first | omega | (simp only [List.length_cons, List.length_nil, List.length_map, List.length_append, List.length_take, List.length_drop, List.length_replicate, List.length_set, mkG_len] <;> omega) | fail) only [push_cast, if_pos, decide_eq_true, decide_eq_false, simprocAttr, -Nat.reduceSubDiff]) <;> (repeat (refine ex_draw (by kernel_rfl) ?_; simp -dsimp (disch := first | omega | (simp only [List.length_cons, List.length_nil, List.length_map, List.length_append, List.length_take, List.length_drop, List.length_replicate, List.length_set, mkG_len] <;> omega) | fail) only [push_cast, if_pos, decide_eq_true, decide_eq_false, simprocAttr, -Nat.reduceSubDiff]))
  refine ex_call (l1Open c hc) ?_
  have hk := take_code hc hb
  generalize c.take 2000 = e at *
  obtain ⟨k, hk0, hd⟩ := pick_nat e 0 20 hk (by omega) (by omega) (by omega) (by omega)
  (simp -dsimp (disch := first | omega | (simp only [List.length_cons, List.length_nil, List.length_map, List.length_append, List.length_take, List.length_drop, List.length_replicate, List.length_set, mkG_len] <;> omega) | fail) only [push_cast, if_pos, decide_eq_true, decide_eq_false, simprocAttr, -Nat.reduceSubDiff]) <;> (repeat (refine ex_draw (by kernel_rfl) ?_; simp -dsimp (disch := first | omega | (simp only [List.length_cons, List.length_nil, List.length_map, List.length_append, List.length_take, List.length_drop, List.length_replicate, List.length_set, mkG_len] <;> omega) | fail) only [push_cast, if_pos, decide_eq_true, decide_eq_false, simprocAttr, -Nat.reduceSubDiff]))
  refine ex_call hd ?_
  clear hd
  by_cases h0 : k = 0
  · subst h0
    obtain ⟨d, hd0, hd⟩ := pick_nat e (0 + 1) 2 hk (by omega) (by omega) (by omega) (by omega)
    (simp -dsimp (disch := first | omega | (simp only [List.length_cons, List.length_nil, List.length_map, List.length_append, List.length_take, List.length_drop, List.length_replicate, List.length_set, mkG_len] <;> omega) | fail) only [push_cast, if_pos, decide_eq_true, decide_eq_false, simprocAttr, -Nat.reduceSubDiff]) <;> (repeat (refine ex_draw (by kernel_rfl) ?_; simp -dsimp (disch := first | omega | (simp only [List.length_cons, List.length_nil, List.length_map, List.length_append, List.length_take, List.length_drop, List.length_replicate, List.length_set, mkG_len] <;> omega) | fail) only [push_cast, if_pos, decide_eq_true, decide_eq_false, simprocAttr, -Nat.reduceSubDiff]))
    refine ex_call hd ?_
    obtain ⟨m, hm⟩ := nat_of' (show 0 ≤ (3000 : Int) + d by omega)
    (simp -dsimp (disch := first | omega | (simp only [wr_id, hm, List.length_cons, List.length_nil, List.length_map, List.length_append, List.length_take, List.length_drop, List.length_replicate, List.length_set, mkG_len] <;> omega) | fail) only [push_cast, if_pos, decide_eq_true, decide_eq_false, wr_id, hm, simprocAttr, -Nat.reduceSubDiff]) <;> (repeat (refine ex_draw (by kernel_rfl) ?_; simp -dsimp (disch := first | omega | (simp only [wr_id, hm, List.length_cons, List.length_nil, List.length_map, List.length_append, List.length_take, List.length_drop, List.length_replicate, List.length_set, mkG_len] <;> omega) | fail) only [push_cast, if_pos, decide_eq_true, decide_eq_false, wr_id, hm, simprocAttr, -Nat.reduceSubDiff]))
    refine ex_some (l1Many ⟨#[109]⟩ m 3001 (by omega) (by rw [sz1]; omega) (by omega) (by rw [sz1]; omega)) ?_
    rintro _ ⟨t, rfl, ht⟩
    (simp -dsimp (disch := first | omega | (simp only [List.length_cons, List.length_nil, List.length_map, List.length_append, List.length_take, List.length_drop, List.length_replicate, List.length_set, mkG_len] <;> omega) | fail) only [push_cast, if_pos, decide_eq_true, decide_eq_false, simprocAttr, -Nat.reduceSubDiff]) <;> (repeat (refine ex_draw (by kernel_rfl) ?_; simp -dsimp (disch := first | omega | (simp only [List.length_cons, List.length_nil, List.length_map, List.length_append, List.length_take, List.length_drop, List.length_replicate, List.length_set, mkG_len] <;> omega) | fail) only [push_cast, if_pos, decide_eq_true, decide_eq_false, simprocAttr, -Nat.reduceSubDiff]))
    exact ⟨_, ⟨t, rfl, by omega⟩, rfl⟩
  · (simp -dsimp (disch := first | omega | (simp only [h0, List.length_cons, List.length_nil, List.length_map, List.length_append, List.length_take, List.length_drop, List.length_replicate, List.length_set, mkG_len] <;> omega) | fail) only [push_cast, if_pos, decide_eq_true, decide_eq_false, h0, simprocAttr, -Nat.reduceSubDiff]) <;> (repeat (refine ex_draw (by kernel_rfl) ?_; simp -dsimp (disch := first | omega | (simp only [h0, List.length_cons, List.length_nil, List.length_map, List.length_append, List.length_take, List.length_drop, List.length_replicate, List.length_set, mkG_len] <;> omega) | fail) only [push_cast, if_pos, decide_eq_true, decide_eq_false, h0, simprocAttr, -Nat.reduceSubDiff]))
    refine ex_some (l2Thing e (0 + 1) hk (by omega) (by omega)) ?_
    rintro _ ⟨t, p', rfl, ht, _, _⟩
    (simp -dsimp (disch := first | omega | (simp only [List.length_cons, List.length_nil, List.length_map, List.length_append, List.length_take, List.length_drop, List.length_replicate, List.length_set, mkG_len] <;> omega) | fail) only [push_cast, if_pos, decide_eq_true, decide_eq_false, simprocAttr, -Nat.reduceSubDiff]) <;> (repeat (refine ex_draw (by kernel_rfl) ?_; simp -dsimp (disch := first | omega | (simp only [List.length_cons, List.length_nil, List.length_map, List.length_append, List.length_take, List.length_drop, List.length_replicate, List.length_set, mkG_len] <;> omega) | fail) only [push_cast, if_pos, decide_eq_true, decide_eq_false, simprocAttr, -Nat.reduceSubDiff]))
    exact ⟨_, ⟨t, rfl, by omega⟩, rfl⟩
def dsR (r : Ans) : Prop := ∃ (t : Str) (w : Int), r = (.tu [.sc (.string t), .sc (.int .i64 w)], []) ∧ t.size ≤ 300000
def E13 : Env := { T := T0, kp := look [(0, [0]), (1, [0]), (2, [0, 4]), (3, [4, 5]), (4, [4, 5]), (5, [4, 5])], dp := look2 [(4, [[], [], [], [2], [1, 2, 3], [1, 2, 3, 4], [0, 2, 3], [0, 1, 2, 3, 4, 5, 6]])], md := look3 [(3, 1, [1, 0]), (4, 3, [1, 0]), (5, 2, [1, 0, 0])] }
attribute [local push_cast] E13
set_option maxHeartbeats 1000000 in
theorem drawDescribe (c : List Int) (hc : c.length ≤ 1048576) (hb : ∀ x ∈ c, 0 ≤ x ∧ x ≤ 255) : ∃ r, dsR r ∧ Does Tryz.prog 13 [.sl false 1 (c.map numR)] r := by
  refine does_ex (E := E13) (rs := [.tmp 2, .tmp 3]) (lent := []) tOk rfl Tryz.func13 rfl (by decide) rfl rfl (Nat.le_of_ble_eq_true rfl) (Nat.le_of_ble_eq_true rfl) ?_
  (simp -dsimp (disch := first | omega | (simp only [List.length_cons, List.length_nil, List.length_map, List.length_append, List.length_take, List.length_drop, List.length_replicate, List.length_set, mkG_len] <;> omega) | fail) only [push_cast, if_pos, decide_eq_true, decide_eq_false, simprocAttr, -Nat.reduceSubDiff]) <;> (repeat (refine ex_draw (by kernel_rfl) ?_; simp -dsimp (disch := first | omega | (simp only [List.length_cons, List.length_nil, List.length_map, List.length_append, List.length_take, List.length_drop, List.length_replicate, List.length_set, mkG_len] <;> omega) | fail) only [push_cast, if_pos, decide_eq_true, decide_eq_false, simprocAttr, -Nat.reduceSubDiff]))
  refine ex_call (l1Open c hc) ?_
  have hk := take_code hc hb
  generalize he : c.take 2000 = e at *
  (simp -dsimp (disch := first | omega | (simp only [List.length_cons, List.length_nil, List.length_map, List.length_append, List.length_take, List.length_drop, List.length_replicate, List.length_set, mkG_len] <;> omega) | fail) only [push_cast, if_pos, decide_eq_true, decide_eq_false, simprocAttr, -Nat.reduceSubDiff]) <;> (repeat (refine ex_draw (by kernel_rfl) ?_; simp -dsimp (disch := first | omega | (simp only [List.length_cons, List.length_nil, List.length_map, List.length_append, List.length_take, List.length_drop, List.length_replicate, List.length_set, mkG_len] <;> omega) | fail) only [push_cast, if_pos, decide_eq_true, decide_eq_false, simprocAttr, -Nat.reduceSubDiff]))
  refine ex_some (drawPieces c hc hb) ?_
  rintro _ ⟨t, rfl, ht⟩
  obtain ⟨k, hk0, hd⟩ := pick_nat e 0 16 hk (by omega) (by omega) (by omega) (by omega)
  (simp -dsimp (disch := first | omega | (simp only [List.length_cons, List.length_nil, List.length_map, List.length_append, List.length_take, List.length_drop, List.length_replicate, List.length_set, mkG_len] <;> omega) | fail) only [push_cast, if_pos, decide_eq_true, decide_eq_false, simprocAttr, -Nat.reduceSubDiff]) <;> (repeat (refine ex_draw (by kernel_rfl) ?_; simp -dsimp (disch := first | omega | (simp only [List.length_cons, List.length_nil, List.length_map, List.length_append, List.length_take, List.length_drop, List.length_replicate, List.length_set, mkG_len] <;> omega) | fail) only [push_cast, if_pos, decide_eq_true, decide_eq_false, simprocAttr, -Nat.reduceSubDiff]))
  refine ex_call hd ?_
  clear hd
  by_cases h0 : k = 0
  · subst h0
    obtain ⟨d, hd0, hd⟩ := pick_nat e (0 + 1) 2 hk (by omega) (by omega) (by omega) (by omega)
    (simp -dsimp (disch := first | omega | (simp only [lrep2, List.length_cons, List.length_nil, List.length_map, List.length_append, List.length_take, List.length_drop, List.length_replicate, List.length_set, mkG_len] <;> omega) | fail) only [push_cast, if_pos, decide_eq_true, decide_eq_false, lrep2, simprocAttr, -Nat.reduceSubDiff]) <;> (repeat (refine ex_draw (by kernel_rfl) ?_; simp -dsimp (disch := first | omega | (simp only [lrep2, List.length_cons, List.length_nil, List.length_map, List.length_append, List.length_take, List.length_drop, List.length_replicate, List.length_set, mkG_len] <;> omega) | fail) only [push_cast, if_pos, decide_eq_true, decide_eq_false, lrep2, simprocAttr, -Nat.reduceSubDiff]))
    refine ex_call hd ?_
    rcases (show d = 0 ∨ d = 1 by omega) with rfl | rfl
    all_goals
      (simp -dsimp (disch := first | omega | (simp only [lrep2, List.length_cons, List.length_nil, List.length_map, List.length_append, List.length_take, List.length_drop, List.length_replicate, List.length_set, mkG_len] <;> omega) | fail) only [push_cast, if_pos, decide_eq_true, decide_eq_false, lrep2, simprocAttr, -Nat.reduceSubDiff]) <;> (repeat (refine ex_draw (by kernel_rfl) ?_; simp -dsimp (disch := first | omega | (simp only [lrep2, List.length_cons, List.length_nil, List.length_map, List.length_append, List.length_take, List.length_drop, List.length_replicate, List.length_set, mkG_len] <;> omega) | fail) only [push_cast, if_pos, decide_eq_true, decide_eq_false, lrep2, simprocAttr, -Nat.reduceSubDiff]))
      exact ⟨_, ⟨t, _, rfl, by omega⟩, rfl⟩
  · (simp -dsimp (disch := first | omega | (simp only [h0, List.length_cons, List.length_nil, List.length_map, List.length_append, List.length_take, List.length_drop, List.length_replicate, List.length_set, mkG_len] <;> omega) | fail) only [push_cast, if_pos, decide_eq_true, decide_eq_false, h0, simprocAttr, -Nat.reduceSubDiff]) <;> (repeat (refine ex_draw (by kernel_rfl) ?_; simp -dsimp (disch := first | omega | (simp only [h0, List.length_cons, List.length_nil, List.length_map, List.length_append, List.length_take, List.length_drop, List.length_replicate, List.length_set, mkG_len] <;> omega) | fail) only [push_cast, if_pos, decide_eq_true, decide_eq_false, h0, simprocAttr, -Nat.reduceSubDiff]))
    refine ex_some (l1DrawWidth e (0 + 1) hk (by omega) (by omega)) ?_
    rintro _ ⟨w, rfl, _, _⟩
    (simp -dsimp (disch := first | omega | (simp only [List.length_cons, List.length_nil, List.length_map, List.length_append, List.length_take, List.length_drop, List.length_replicate, List.length_set, mkG_len] <;> omega) | fail) only [push_cast, if_pos, decide_eq_true, decide_eq_false, simprocAttr, -Nat.reduceSubDiff]) <;> (repeat (refine ex_draw (by kernel_rfl) ?_; simp -dsimp (disch := first | omega | (simp only [List.length_cons, List.length_nil, List.length_map, List.length_append, List.length_take, List.length_drop, List.length_replicate, List.length_set, mkG_len] <;> omega) | fail) only [push_cast, if_pos, decide_eq_true, decide_eq_false, simprocAttr, -Nat.reduceSubDiff]))
    exact ⟨_, ⟨t, w, rfl, by omega⟩, rfl⟩
theorem desc_szs {t : Str} {w : Int} : ∀ x ∈ (descL t w).1.S, x.size ≤ 8 := by
  unfold descL
  split
  · intro x hx; cases hx
  · intro x hx
    obtain ⟨p, _, rfl⟩ := List.mem_map.1 hx
    by_cases h : 1 ≤ w ∧ w ≤ 8
    · have := sumS_size (t := p) h.1 h.2; omega
    · unfold sumS; rw [if_neg h]; exact Nat.zero_le _
theorem desc_sz0 {t : Str} {w : Int} : -1000000 ≤ (descL t w).1.sz ∧ (descL t w).1.sz ≤ 1000000 := by
  unfold descL
  split
  · simp [emL]
  · rename_i h; simp only; omega
def E24 : Env := { T := T0, kp := look [(0, [0]), (1, [0]), (2, [4]), (3, [4, 5]), (4, [4, 5, 6]), (5, [4, 5, 6]), (6, [5, 6])], md := look3 [(2, 1, [1, 0, 0]), (3, 1, [1]), (4, 1, [1, 0]), (5, 2, [1, 0, 0])] }
attribute [local push_cast] E24
set_option maxHeartbeats 1000000 in
theorem drawReadList (c : List Int) (hc : c.length ≤ 1048576) (hb : ∀ x ∈ c, 0 ≤ x ∧ x ≤ 255) : ∃ r, dsR r ∧ Does Tryz.prog 24 [.sl false 1 (c.map numR)] r := by
  refine does_ex (E := E24) (rs := [.tmp 2, .tmp 3]) (lent := []) tOk rfl Tryz.func24 rfl (by decide) rfl rfl (Nat.le_of_ble_eq_true rfl) (Nat.le_of_ble_eq_true rfl) ?_
  (simp -dsimp (disch := first | omega | (simp only [List.length_cons, List.length_nil, List.length_map, List.length_append, List.length_take, List.length_drop, List.length_replicate, List.length_set, mkG_len] <;> omega) | fail) only [push_cast, if_pos, decide_eq_true, decide_eq_false, simprocAttr, -Nat.reduceSubDiff]) <;> (repeat (refine ex_draw (by kernel_rfl) ?_; simp -dsimp (disch := first | omega | (simp only [List.length_cons, List.length_nil, List.length_map, List.length_append, List.length_take, List.length_drop, List.length_replicate, List.length_set, mkG_len] <;> omega) | fail) only [push_cast, if_pos, decide_eq_true, decide_eq_false, simprocAttr, -Nat.reduceSubDiff]))
  refine ex_call (l1Open c hc) ?_
  have hk := take_code hc hb
  generalize c.take 2000 = e at *
  (simp -dsimp (disch := first | omega | (simp only [List.length_cons, List.length_nil, List.length_map, List.length_append, List.length_take, List.length_drop, List.length_replicate, List.length_set, mkG_len] <;> omega) | fail) only [push_cast, if_pos, decide_eq_true, decide_eq_false, simprocAttr, -Nat.reduceSubDiff]) <;> (repeat (refine ex_draw (by kernel_rfl) ?_; simp -dsimp (disch := first | omega | (simp only [List.length_cons, List.length_nil, List.length_map, List.length_append, List.length_take, List.length_drop, List.length_replicate, List.length_set, mkG_len] <;> omega) | fail) only [push_cast, if_pos, decide_eq_true, decide_eq_false, simprocAttr, -Nat.reduceSubDiff]))
  refine ex_some (l1DrawWidth e 0 hk (by omega) (by omega)) ?_
  rintro _ ⟨w, rfl, _, _⟩
  (simp -dsimp (disch := first | omega | (simp only [List.length_cons, List.length_nil, List.length_map, List.length_append, List.length_take, List.length_drop, List.length_replicate, List.length_set, mkG_len] <;> omega) | fail) only [push_cast, if_pos, decide_eq_true, decide_eq_false, simprocAttr, -Nat.reduceSubDiff]) <;> (repeat (refine ex_draw (by kernel_rfl) ?_; simp -dsimp (disch := first | omega | (simp only [List.length_cons, List.length_nil, List.length_map, List.length_append, List.length_take, List.length_drop, List.length_replicate, List.length_set, mkG_len] <;> omega) | fail) only [push_cast, if_pos, decide_eq_true, decide_eq_false, simprocAttr, -Nat.reduceSubDiff]))
  refine ex_some (l2Thing e (0 + 1) hk (by omega) (by omega)) ?_
  rintro _ ⟨t, p, rfl, ht, hp, hp2⟩
  have hdl := desc_len (t := t) (w := w)
  have hfl := formL_len (l := (descL t w).1) (w := w)
  (simp -dsimp (disch := first | omega | (simp only [List.length_cons, List.length_nil, List.length_map, List.length_append, List.length_take, List.length_drop, List.length_replicate, List.length_set, mkG_len] <;> omega) | fail) only [push_cast, if_pos, decide_eq_true, decide_eq_false, simprocAttr, -Nat.reduceSubDiff]) <;> (repeat (refine ex_draw (by kernel_rfl) ?_; simp -dsimp (disch := first | omega | (simp only [List.length_cons, List.length_nil, List.length_map, List.length_append, List.length_take, List.length_drop, List.length_replicate, List.length_set, mkG_len] <;> omega) | fail) only [push_cast, if_pos, decide_eq_true, decide_eq_false, simprocAttr, -Nat.reduceSubDiff]))
  refine ex_call (specDescribe t w (by omega)) ?_
  (simp -dsimp (disch := first | omega | (simp only [List.length_cons, List.length_nil, List.length_map, List.length_append, List.length_take, List.length_drop, List.length_replicate, List.length_set, mkG_len] <;> omega) | fail) only [push_cast, if_pos, decide_eq_true, decide_eq_false, simprocAttr, -Nat.reduceSubDiff]) <;> (repeat (refine ex_draw (by kernel_rfl) ?_; simp -dsimp (disch := first | omega | (simp only [List.length_cons, List.length_nil, List.length_map, List.length_append, List.length_take, List.length_drop, List.length_replicate, List.length_set, mkG_len] <;> omega) | fail) only [push_cast, if_pos, decide_eq_true, decide_eq_false, simprocAttr, -Nat.reduceSubDiff]))
  refine ex_call (specFormList (descL t w).1 w (by omega)) ?_
  generalize formL (descL t w).1 w = f at *
  obtain ⟨k, hk0, hd⟩ := pick_nat e p 2 hk (by omega) (by omega) (by omega) (by omega)
  (simp -dsimp (disch := first | omega | (simp only [List.length_cons, List.length_nil, List.length_map, List.length_append, List.length_take, List.length_drop, List.length_replicate, List.length_set, mkG_len] <;> omega) | fail) only [push_cast, if_pos, decide_eq_true, decide_eq_false, simprocAttr, -Nat.reduceSubDiff]) <;> (repeat (refine ex_draw (by kernel_rfl) ?_; simp -dsimp (disch := first | omega | (simp only [List.length_cons, List.length_nil, List.length_map, List.length_append, List.length_take, List.length_drop, List.length_replicate, List.length_set, mkG_len] <;> omega) | fail) only [push_cast, if_pos, decide_eq_true, decide_eq_false, simprocAttr, -Nat.reduceSubDiff]))
  refine ex_call hd ?_
  clear hd
  by_cases h0 : k = 0
  · subst h0
    (simp -dsimp (disch := first | omega | (simp only [List.length_cons, List.length_nil, List.length_map, List.length_append, List.length_take, List.length_drop, List.length_replicate, List.length_set, mkG_len] <;> omega) | fail) only [push_cast, if_pos, decide_eq_true, decide_eq_false, simprocAttr, -Nat.reduceSubDiff]) <;> (repeat (refine ex_draw (by kernel_rfl) ?_; simp -dsimp (disch := first | omega | (simp only [List.length_cons, List.length_nil, List.length_map, List.length_append, List.length_take, List.length_drop, List.length_replicate, List.length_set, mkG_len] <;> omega) | fail) only [push_cast, if_pos, decide_eq_true, decide_eq_false, simprocAttr, -Nat.reduceSubDiff]))
    refine ex_some (l1Bend e (p + 1) f hk (by omega) (by omega) (by omega)) ?_
    rintro _ ⟨u, p', rfl, hu, _, _⟩
    (simp -dsimp (disch := first | omega | (simp only [List.length_cons, List.length_nil, List.length_map, List.length_append, List.length_take, List.length_drop, List.length_replicate, List.length_set, mkG_len] <;> omega) | fail) only [push_cast, if_pos, decide_eq_true, decide_eq_false, simprocAttr, -Nat.reduceSubDiff]) <;> (repeat (refine ex_draw (by kernel_rfl) ?_; simp -dsimp (disch := first | omega | (simp only [List.length_cons, List.length_nil, List.length_map, List.length_append, List.length_take, List.length_drop, List.length_replicate, List.length_set, mkG_len] <;> omega) | fail) only [push_cast, if_pos, decide_eq_true, decide_eq_false, simprocAttr, -Nat.reduceSubDiff]))
    exact ⟨_, ⟨u, w, rfl, by omega⟩, rfl⟩
  · (simp -dsimp (disch := first | omega | (simp only [h0, List.length_cons, List.length_nil, List.length_map, List.length_append, List.length_take, List.length_drop, List.length_replicate, List.length_set, mkG_len] <;> omega) | fail) only [push_cast, if_pos, decide_eq_true, decide_eq_false, h0, simprocAttr, -Nat.reduceSubDiff]) <;> (repeat (refine ex_draw (by kernel_rfl) ?_; simp -dsimp (disch := first | omega | (simp only [h0, List.length_cons, List.length_nil, List.length_map, List.length_append, List.length_take, List.length_drop, List.length_replicate, List.length_set, mkG_len] <;> omega) | fail) only [push_cast, if_pos, decide_eq_true, decide_eq_false, h0, simprocAttr, -Nat.reduceSubDiff]))
    exact ⟨_, ⟨f, w, rfl, by omega⟩, rfl⟩
def bdR (r : Ans) : Prop := ∃ (l : Lst) (ps : List Str) (w : Int), r = (.tu [.ag (lstC true l), .sl true 1 (ps.map strR), .sc (.int .i64 w)], []) ∧ okLst l ∧ okL okStr ps
theorem lrep2' {α : Type} (a : α) : List.replicate 2 a = [a, a] := rfl
def E22 : Env := { T := T0, kp := look [(0, [0]), (1, [0, 2]), (2, [2, 5]), (3, [2, 5, 6]), (4, [2, 5, 6, 7]), (5, [2, 5, 6, 7, 8]), (6, [2, 5, 6, 8, 9]), (7, [2, 5, 6, 8, 9, 23]), (8, [2, 5, 6, 8, 9]), (9, [2, 5, 6, 8, 9, 23]), (10, [2, 6, 8, 9]), (11, [2, 6, 8, 9]), (12, [2, 5, 6, 8, 9, 23]), (13, [2, 5, 6, 8, 9]), (14, [2, 5, 6, 8, 9]), (15, [2, 5, 6, 8, 9, 10]), (16, [2, 6, 8, 9, 23]), (17, [2, 6, 8]), (18, [2, 6, 8, 9]), (19, [2, 6, 8, 9])], md := look3 [(2, 1, [1, 0, 0]), (3, 1, [1]), (6, 1, [1, 0]), (8, 2, [1, 2]), (14, 3, [1, 0]), (15, 7, [1, 0, 0])] }
attribute [local push_cast] E22
set_option maxRecDepth 20000 in
set_option maxHeartbeats 2000000 in
theorem drawBuild (c : List Int) (hc : c.length ≤ 1048576) (hb : ∀ x ∈ c, 0 ≤ x ∧ x ≤ 255) : ∃ r, bdR r ∧ Does Tryz.prog 22 [.sl false 1 (c.map numR)] r := by
  refine does_ex (E := E22) (rs := [.cell 2 27, .tmp 3, .tmp 4]) (lent := []) tOk rfl Tryz.func22 rfl (by decide) rfl rfl (Nat.le_of_ble_eq_true rfl) (Nat.le_of_ble_eq_true rfl) ?_
  (simp -dsimp (disch := first | omega | (simp only [List.length_cons, List.length_nil, List.length_map, List.length_append, List.length_take, List.length_drop, List.length_replicate, List.length_set, mkG_len] <;> omega) | fail) only [push_cast, if_pos, decide_eq_true, decide_eq_false, simprocAttr, -Nat.reduceSubDiff]) <;> (repeat (refine ex_draw (by kernel_rfl) ?_; simp -dsimp (disch := first | omega | (simp only [List.length_cons, List.length_nil, List.length_map, List.length_append, List.length_take, List.length_drop, List.length_replicate, List.length_set, mkG_len] <;> omega) | fail) only [push_cast, if_pos, decide_eq_true, decide_eq_false, simprocAttr, -Nat.reduceSubDiff]))
  refine ex_call (l1Open c hc) ?_
  have hk := take_code hc hb
  generalize c.take 2000 = e at *
  (simp -dsimp (disch := first | omega | (simp only [List.length_cons, List.length_nil, List.length_map, List.length_append, List.length_take, List.length_drop, List.length_replicate, List.length_set, mkG_len] <;> omega) | fail) only [push_cast, if_pos, decide_eq_true, decide_eq_false, simprocAttr, -Nat.reduceSubDiff]) <;> (repeat (refine ex_draw (by kernel_rfl) ?_; simp -dsimp (disch := first | omega | (simp only [List.length_cons, List.length_nil, List.length_map, List.length_append, List.length_take, List.length_drop, List.length_replicate, List.length_set, mkG_len] <;> omega) | fail) only [push_cast, if_pos, decide_eq_true, decide_eq_false, simprocAttr, -Nat.reduceSubDiff]))
  refine ex_some (l1DrawWidth e 0 hk (by omega) (by omega)) ?_
  rintro _ ⟨w, rfl, hw1, hw8⟩
  (simp -dsimp (disch := first | omega | (simp only [List.length_cons, List.length_nil, List.length_map, List.length_append, List.length_take, List.length_drop, List.length_replicate, List.length_set, mkG_len] <;> omega) | fail) only [push_cast, if_pos, decide_eq_true, decide_eq_false, simprocAttr, -Nat.reduceSubDiff]) <;> (repeat (refine ex_draw (by kernel_rfl) ?_; simp -dsimp (disch := first | omega | (simp only [List.length_cons, List.length_nil, List.length_map, List.length_append, List.length_take, List.length_drop, List.length_replicate, List.length_set, mkG_len] <;> omega) | fail) only [push_cast, if_pos, decide_eq_true, decide_eq_false, simprocAttr, -Nat.reduceSubDiff]))
  refine ex_some (l2Thing e (0 + 1) hk (by omega) (by omega)) ?_
  rintro _ ⟨t, p, rfl, ht, hp, hp2⟩
  have hdl := desc_len (t := t) (w := w)
  have hds := desc_szs (t := t) (w := w)
  have hdz := desc_sz0 (t := t) (w := w)
  have hpl := pieces_len t
  have hps := fun x (hx : x ∈ piecesL t) => pieces_sz hx
  (simp -dsimp (disch := first | omega | (simp only [List.length_cons, List.length_nil, List.length_map, List.length_append, List.length_take, List.length_drop, List.length_replicate, List.length_set, mkG_len] <;> omega) | fail) only [push_cast, if_pos, decide_eq_true, decide_eq_false, simprocAttr, -Nat.reduceSubDiff]) <;> (repeat (refine ex_draw (by kernel_rfl) ?_; simp -dsimp (disch := first | omega | (simp only [List.length_cons, List.length_nil, List.length_map, List.length_append, List.length_take, List.length_drop, List.length_replicate, List.length_set, mkG_len] <;> omega) | fail) only [push_cast, if_pos, decide_eq_true, decide_eq_false, simprocAttr, -Nat.reduceSubDiff]))
  refine ex_call (specDescribe t w (by omega)) ?_
  (simp -dsimp (disch := first | omega | (simp only [List.length_cons, List.length_nil, List.length_map, List.length_append, List.length_take, List.length_drop, List.length_replicate, List.length_set, mkG_len] <;> omega) | fail) only [push_cast, if_pos, decide_eq_true, decide_eq_false, simprocAttr, -Nat.reduceSubDiff]) <;> (repeat (refine ex_draw (by kernel_rfl) ?_; simp -dsimp (disch := first | omega | (simp only [List.length_cons, List.length_nil, List.length_map, List.length_append, List.length_take, List.length_drop, List.length_replicate, List.length_set, mkG_len] <;> omega) | fail) only [push_cast, if_pos, decide_eq_true, decide_eq_false, simprocAttr, -Nat.reduceSubDiff]))
  refine ex_call (specPieces t (by omega)) ?_
  generalize (descL t w).1 = l at *
  generalize piecesL t = P at *
  have okl : okLst l := ⟨by omega, fun a ha => by have := hds a ha; show a.size ≤ 2097152; omega⟩
  have okp : okL okStr P := ⟨by omega, fun a ha => by have := hps a ha; show a.size ≤ 2097152; omega⟩
  obtain ⟨k, hk0, hd⟩ := pick_nat e p 8 hk (by omega) (by omega) (by omega) (by omega)
  (simp -dsimp (disch := first | omega | (simp only [List.length_cons, List.length_nil, List.length_map, List.length_append, List.length_take, List.length_drop, List.length_replicate, List.length_set, mkG_len] <;> omega) | fail) only [push_cast, if_pos, decide_eq_true, decide_eq_false, simprocAttr, -Nat.reduceSubDiff]) <;> (repeat (refine ex_draw (by kernel_rfl) ?_; simp -dsimp (disch := first | omega | (simp only [List.length_cons, List.length_nil, List.length_map, List.length_append, List.length_take, List.length_drop, List.length_replicate, List.length_set, mkG_len] <;> omega) | fail) only [push_cast, if_pos, decide_eq_true, decide_eq_false, simprocAttr, -Nat.reduceSubDiff]))
  refine ex_call hd ?_
  clear hd
  by_cases k0 : k = 0
  · subst k0
    (simp -dsimp (disch := first | omega | (simp only [List.length_cons, List.length_nil, List.length_map, List.length_append, List.length_take, List.length_drop, List.length_replicate, List.length_set, mkG_len] <;> omega) | fail) only [push_cast, if_pos, decide_eq_true, decide_eq_false, simprocAttr, -Nat.reduceSubDiff]) <;> (repeat (refine ex_draw (by kernel_rfl) ?_; simp -dsimp (disch := first | omega | (simp only [List.length_cons, List.length_nil, List.length_map, List.length_append, List.length_take, List.length_drop, List.length_replicate, List.length_set, mkG_len] <;> omega) | fail) only [push_cast, if_pos, decide_eq_true, decide_eq_false, simprocAttr, -Nat.reduceSubDiff]))
    refine ex_some (l3Spoil e (p + 1) l hk (by omega) (by omega) hdz (by omega) hds) ?_
    rintro _ ⟨m, p', rfl, ⟨hm1, hm2⟩, _, _⟩
    (simp -dsimp (disch := first | omega | (simp only [List.length_cons, List.length_nil, List.length_map, List.length_append, List.length_take, List.length_drop, List.length_replicate, List.length_set, mkG_len] <;> omega) | fail) only [push_cast, if_pos, decide_eq_true, decide_eq_false, simprocAttr, -Nat.reduceSubDiff]) <;> (repeat (refine ex_draw (by kernel_rfl) ?_; simp -dsimp (disch := first | omega | (simp only [List.length_cons, List.length_nil, List.length_map, List.length_append, List.length_take, List.length_drop, List.length_replicate, List.length_set, mkG_len] <;> omega) | fail) only [push_cast, if_pos, decide_eq_true, decide_eq_false, simprocAttr, -Nat.reduceSubDiff]))
    exact ⟨_, ⟨m, P, w, rfl, ⟨by omega, fun a ha => by have := hm2 a ha; show a.size ≤ 2097152; omega⟩, okp⟩, rfl⟩
  by_cases k1 : k = 1
  · subst k1
    by_cases h0 : 0 < P.length
    · have e1 : ((P.length : Int) - 1).toNat = P.length - 1 := by omega
      (simp -dsimp (disch := first | omega | (simp only [e1, drop1, List.length_cons, List.length_nil, List.length_map, List.length_append, List.length_take, List.length_drop, List.length_replicate, List.length_set, mkG_len] <;> omega) | fail) only [push_cast, if_pos, decide_eq_true, decide_eq_false, e1, drop1, simprocAttr, -Nat.reduceSubDiff]) <;> (repeat (refine ex_draw (by kernel_rfl) ?_; simp -dsimp (disch := first | omega | (simp only [e1, drop1, List.length_cons, List.length_nil, List.length_map, List.length_append, List.length_take, List.length_drop, List.length_replicate, List.length_set, mkG_len] <;> omega) | fail) only [push_cast, if_pos, decide_eq_true, decide_eq_false, e1, drop1, simprocAttr, -Nat.reduceSubDiff]))
      exact ⟨_, ⟨l, P.drop 1, w, rfl, okl, ⟨by rw [List.length_drop]; omega, fun a ha => okp.2 a (List.mem_of_mem_drop ha)⟩⟩, rfl⟩
    · (simp -dsimp (disch := first | omega | (simp only [List.length_cons, List.length_nil, List.length_map, List.length_append, List.length_take, List.length_drop, List.length_replicate, List.length_set, mkG_len] <;> omega) | fail) only [push_cast, if_pos, decide_eq_true, decide_eq_false, simprocAttr, -Nat.reduceSubDiff]) <;> (repeat (refine ex_draw (by kernel_rfl) ?_; simp -dsimp (disch := first | omega | (simp only [List.length_cons, List.length_nil, List.length_map, List.length_append, List.length_take, List.length_drop, List.length_replicate, List.length_set, mkG_len] <;> omega) | fail) only [push_cast, if_pos, decide_eq_true, decide_eq_false, simprocAttr, -Nat.reduceSubDiff]))
      exact ⟨_, ⟨l, P, w, rfl, okl, okp⟩, rfl⟩
  by_cases k2 : k = 2
  · subst k2
    by_cases h0 : 0 < P.length
    · obtain ⟨j, hj, hd⟩ := pick_nat e (p + 1) P.length hk (by omega) (by omega) (by omega) (by omega)
      (simp -dsimp (disch := first | omega | (simp only [List.length_cons, List.length_nil, List.length_map, List.length_append, List.length_take, List.length_drop, List.length_replicate, List.length_set, mkG_len] <;> omega) | fail) only [push_cast, if_pos, decide_eq_true, decide_eq_false, simprocAttr, -Nat.reduceSubDiff]) <;> (repeat (refine ex_draw (by kernel_rfl) ?_; simp -dsimp (disch := first | omega | (simp only [List.length_cons, List.length_nil, List.length_map, List.length_append, List.length_take, List.length_drop, List.length_replicate, List.length_set, mkG_len] <;> omega) | fail) only [push_cast, if_pos, decide_eq_true, decide_eq_false, simprocAttr, -Nat.reduceSubDiff]))
      refine ex_call hd ?_
      obtain ⟨x, hx⟩ := ex_get (show j < P.length by omega)
      have hxs := hps x (List.mem_of_getElem? hx)
      (simp -dsimp (disch := first | omega | (simp only [hx, List.length_cons, List.length_nil, List.length_map, List.length_append, List.length_take, List.length_drop, List.length_replicate, List.length_set, mkG_len] <;> omega) | fail) only [push_cast, if_pos, decide_eq_true, decide_eq_false, hx, simprocAttr, -Nat.reduceSubDiff]) <;> (repeat (refine ex_draw (by kernel_rfl) ?_; simp -dsimp (disch := first | omega | (simp only [hx, List.length_cons, List.length_nil, List.length_map, List.length_append, List.length_take, List.length_drop, List.length_replicate, List.length_set, mkG_len] <;> omega) | fail) only [push_cast, if_pos, decide_eq_true, decide_eq_false, hx, simprocAttr, -Nat.reduceSubDiff]))
      refine ex_some (l1Bend e (p + 1 + 1) x hk (by omega) (by omega) (by omega)) ?_
      rintro _ ⟨u, p', rfl, hu, _, _⟩
      have hset : (P.map strR).set j [.sc (.string u)] = (P.set j u).map strR := by rw [List.map_set]; rfl
      (simp -dsimp (disch := first | omega | (simp only [hx, hset, List.length_cons, List.length_nil, List.length_map, List.length_append, List.length_take, List.length_drop, List.length_replicate, List.length_set, mkG_len] <;> omega) | fail) only [push_cast, if_pos, decide_eq_true, decide_eq_false, hx, hset, simprocAttr, -Nat.reduceSubDiff]) <;> (repeat (refine ex_draw (by kernel_rfl) ?_; simp -dsimp (disch := first | omega | (simp only [hx, hset, List.length_cons, List.length_nil, List.length_map, List.length_append, List.length_take, List.length_drop, List.length_replicate, List.length_set, mkG_len] <;> omega) | fail) only [push_cast, if_pos, decide_eq_true, decide_eq_false, hx, hset, simprocAttr, -Nat.reduceSubDiff]))
      exact ⟨_, ⟨l, P.set j u, w, rfl, okl, ⟨by rw [List.length_set]; omega, fun a ha => by
        rcases List.mem_or_eq_of_mem_set ha with q | q
        · exact okp.2 a q
        · rw [q]; show u.size ≤ 2097152; omega⟩⟩, rfl⟩
    · (simp -dsimp (disch := first | omega | (simp only [List.length_cons, List.length_nil, List.length_map, List.length_append, List.length_take, List.length_drop, List.length_replicate, List.length_set, mkG_len] <;> omega) | fail) only [push_cast, if_pos, decide_eq_true, decide_eq_false, simprocAttr, -Nat.reduceSubDiff]) <;> (repeat (refine ex_draw (by kernel_rfl) ?_; simp -dsimp (disch := first | omega | (simp only [List.length_cons, List.length_nil, List.length_map, List.length_append, List.length_take, List.length_drop, List.length_replicate, List.length_set, mkG_len] <;> omega) | fail) only [push_cast, if_pos, decide_eq_true, decide_eq_false, simprocAttr, -Nat.reduceSubDiff]))
      exact ⟨_, ⟨l, P, w, rfl, okl, okp⟩, rfl⟩
  by_cases k3 : k = 3
  · subst k3
    (simp -dsimp (disch := first | omega | (simp only [lrep2', List.length_cons, List.length_nil, List.length_map, List.length_append, List.length_take, List.length_drop, List.length_replicate, List.length_set, mkG_len] <;> omega) | fail) only [push_cast, if_pos, decide_eq_true, decide_eq_false, lrep2', simprocAttr, -Nat.reduceSubDiff]) <;> (repeat (refine ex_draw (by kernel_rfl) ?_; simp -dsimp (disch := first | omega | (simp only [lrep2', List.length_cons, List.length_nil, List.length_map, List.length_append, List.length_take, List.length_drop, List.length_replicate, List.length_set, mkG_len] <;> omega) | fail) only [push_cast, if_pos, decide_eq_true, decide_eq_false, lrep2', simprocAttr, -Nat.reduceSubDiff]))
    refine ex_call (specSum _ w (by decide)) ?_
    (simp -dsimp (disch := first | omega | (simp only [lrep2', List.length_cons, List.length_nil, List.length_map, List.length_append, List.length_take, List.length_drop, List.length_replicate, List.length_set, mkG_len] <;> omega) | fail) only [push_cast, if_pos, decide_eq_true, decide_eq_false, lrep2', simprocAttr, -Nat.reduceSubDiff]) <;> (repeat (refine ex_draw (by kernel_rfl) ?_; simp -dsimp (disch := first | omega | (simp only [lrep2', List.length_cons, List.length_nil, List.length_map, List.length_append, List.length_take, List.length_drop, List.length_replicate, List.length_set, mkG_len] <;> omega) | fail) only [push_cast, if_pos, decide_eq_true, decide_eq_false, lrep2', simprocAttr, -Nat.reduceSubDiff]))
    refine ex_call (specSum _ w (by decide)) ?_
    have s1 := sumS_size (t := (⟨#[115, 104, 111, 114, 116]⟩ : ByteArray)) hw1 hw8
    have s2 := sumS_size (t := (⟨#[101, 114]⟩ : ByteArray)) hw1 hw8
    generalize sumS (⟨#[115, 104, 111, 114, 116]⟩ : ByteArray) w = u1 at *
    generalize sumS (⟨#[101, 114]⟩ : ByteArray) w = u2 at *
    (simp -dsimp (disch := first | omega | (simp only [lrep2', List.length_cons, List.length_nil, List.length_map, List.length_append, List.length_take, List.length_drop, List.length_replicate, List.length_set, mkG_len] <;> omega) | fail) only [push_cast, if_pos, decide_eq_true, decide_eq_false, lrep2', simprocAttr, -Nat.reduceSubDiff]) <;> (repeat (refine ex_draw (by kernel_rfl) ?_; simp -dsimp (disch := first | omega | (simp only [lrep2', List.length_cons, List.length_nil, List.length_map, List.length_append, List.length_take, List.length_drop, List.length_replicate, List.length_set, mkG_len] <;> omega) | fail) only [push_cast, if_pos, decide_eq_true, decide_eq_false, lrep2', simprocAttr, -Nat.reduceSubDiff]))
    refine ⟨_, ⟨⟨7, [u1, u2]⟩, [⟨#[115, 104, 111, 114, 116]⟩, ⟨#[101, 114]⟩], w, rfl, ⟨by simp, fun a ha => ?_⟩, ⟨by simp, fun a ha => ?_⟩⟩, rfl⟩
    · simp only [List.mem_cons, List.not_mem_nil, or_false] at ha
      rcases ha with rfl | rfl <;> (show _ ≤ 2097152) <;> omega
    · simp only [List.mem_cons, List.not_mem_nil, or_false] at ha
      rcases ha with rfl | rfl <;> (show _ ≤ 2097152) <;> decide
  (simp -dsimp (disch := first | omega | (simp only [k0, k1, k2, k3, List.length_cons, List.length_nil, List.length_map, List.length_append, List.length_take, List.length_drop, List.length_replicate, List.length_set, mkG_len] <;> omega) | fail) only [push_cast, if_pos, decide_eq_true, decide_eq_false, k0, k1, k2, k3, simprocAttr, -Nat.reduceSubDiff]) <;> (repeat (refine ex_draw (by kernel_rfl) ?_; simp -dsimp (disch := first | omega | (simp only [k0, k1, k2, k3, List.length_cons, List.length_nil, List.length_map, List.length_append, List.length_take, List.length_drop, List.length_replicate, List.length_set, mkG_len] <;> omega) | fail) only [push_cast, if_pos, decide_eq_true, decide_eq_false, k0, k1, k2, k3, simprocAttr, -Nat.reduceSubDiff]))
  exact ⟨_, ⟨l, P, w, rfl, okl, okp⟩, rfl⟩
end Go.Proofs.YtgkncgiglmdnaaaGreatDoor.Mx

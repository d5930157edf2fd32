/- A machine over values for Go functions, proved sound, and functions run on it: texts F34, F41, F42, G1. -/
import Derived.Test.YtgkncgiglmdnaaaGreatDoorFetchDoneXah
import Derived.Test.YtgkncgiglmdnaaaGreatDoorFetchDoneXai
import Derived.Test.YtgkncgiglmdnaaaGreatDoorFetchDoneXaj
/- Lists' texts read again: the reference's parts. -/
namespace Go.Proofs.YtgkncgiglmdnaaaGreatDoor.Mx
set_option linter.all false
open Go Go.RowKit Go.Proofs
set_option linter.unusedSimpArgs false
theorem byteRow_of {v : Int} (h0 : 0 ≤ v) (h1 : v ≤ 255) : ([.sc (.int .u8 v)] : Row) = byteRow (UInt8.ofNat v.toNat) := by
  unfold byteRow
  rw [UInt8.toNat_ofNat']
  rw [Nat.mod_eq_of_lt (by omega), show ((v.toNat : Nat) : Int) = v by omega]
def E95 : Env := { T := T0, kp := look [(0, [0, 1]), (1, [0, 1]), (2, [0, 1, 5]), (3, [0, 1, 5, 6]), (4, [0, 1, 5, 6, 7]), (5, [0, 1, 5, 6, 7]), (6, [0, 1, 5, 6, 7]), (7, [0, 1, 5, 6, 7]), (8, [0, 1, 5, 7]), (9, [0, 5, 6])] }
attribute [local push_cast] E95
set_option maxHeartbeats 1000000 in
theorem l3Cut (t : Str) (ht : t.size ≤ 100000000) : Does Tryz.prog 95 [.sc (.string t), .sc (.int .u8 10)] (.sl true 1 (((cutL 10 (bt t)).map stB).map strR), []) := by
  refine does_of (E := E95) (rs := [.tmp 4]) (lent := []) tOk rfl Tryz.func95 rfl (by decide) rfl rfl (Nat.le_of_ble_eq_true rfl) (Nat.le_of_ble_eq_true rfl) ?_
  obtain ⟨M, hM⟩ : ∃ M, M = (cutL 10 (bt t)).map stB := ⟨_, rfl⟩
  rw [← hM]
  unfold cutL at hM
  (simp -dsimp (disch := first | omega | (simp only [List.length_cons, List.length_nil, List.length_map, List.length_append, List.length_take, List.length_drop, List.length_replicate, List.length_set, mkG_len] <;> omega) | fail) only [push_cast, if_pos, decide_eq_true, decide_eq_false, simprocAttr, -Nat.reduceSubDiff]) <;> (repeat (refine (aw_draw (by kernel_rfl)).2 ?_; simp -dsimp (disch := first | omega | (simp only [List.length_cons, List.length_nil, List.length_map, List.length_append, List.length_take, List.length_drop, List.length_replicate, List.length_set, mkG_len] <;> omega) | fail) only [push_cast, if_pos, decide_eq_true, decide_eq_false, simprocAttr, -Nat.reduceSubDiff]))
  refine loop_ind (α := Nat × Nat × List Str) (fun q => q.1 ≤ t.size ∧ q.2.1 ≤ q.1 ∧ q.2.2.length ≤ q.1 ∧ q.2.2 ++ (cutF 10 [] (curB t q.2.1 q.1) ((bt t).drop q.1)).map stB = M)
    (fun q => ⟨[(0, .sc (.string t)), (1, .sc (.int .u8 10)), (5, .ow 1 0 q.2.2.length), (6, .sc (.int .i64 q.2.1)), (7, .sc (.int .i64 q.1))], [(1, .ar 1 0 (q.2.2.map strR))], 2⟩) (fun q => t.size - q.1) (0, 0, []) ⟨Nat.zero_le _, Nat.le_refl _, Nat.le_refl _, by rw [cur_nil]; simp [hM]⟩ ?_ ?_
  · simp -dsimp (disch := first | omega | (simp only [List.length_cons, List.length_nil, List.length_map, List.length_append, List.length_take, List.length_drop, List.length_replicate, List.length_set, mkG_len] <;> omega) | fail) only [push_cast, if_pos, decide_eq_true, decide_eq_false, simprocAttr, -Nat.reduceSubDiff]
  rintro ⟨i, a, acc⟩ ⟨hi, ha, hac, hy⟩ ih
  replace hi : i ≤ t.size := hi
  replace ha : a ≤ i := ha
  replace hac : acc.length ≤ i := hac
  replace hy : acc ++ (cutF 10 [] (curB t a i) ((bt t).drop i)).map stB = M := hy
  by_cases h : i < t.size
  · obtain ⟨x, hx⟩ := ex_get (by rw [bt_len]; exact h : i < (bt t).length)
    rw [drop_step hx, cutF] at hy
    have e1 : a + ((i : Int) - (a : Int)).toNat = i := by omega
    have e2 : ((i : Int) - (a : Int)).toNat = i - a := by omega
    have e3 : a + (i - a) = i := by omega
    by_cases e : x = 10
    · rw [if_pos e, cutF_acc] at hy
      subst e
      have hx10 : ((10 : UInt8).toNat : Int) = 10 := rfl
      (simp -dsimp (disch := first | omega | (simp only [hx, hx10, e1, e2, e3, List.length_cons, List.length_nil, List.length_map, List.length_append, List.length_take, List.length_drop, List.length_replicate, List.length_set, mkG_len] <;> omega) | fail) only [push_cast, if_pos, decide_eq_true, decide_eq_false, hx, hx10, e1, e2, e3, simprocAttr, -Nat.reduceSubDiff]) <;> (repeat (refine (aw_draw (by kernel_rfl)).2 ?_; simp -dsimp (disch := first | omega | (simp only [hx, hx10, e1, e2, e3, List.length_cons, List.length_nil, List.length_map, List.length_append, List.length_take, List.length_drop, List.length_replicate, List.length_set, mkG_len] <;> omega) | fail) only [push_cast, if_pos, decide_eq_true, decide_eq_false, hx, hx10, e1, e2, e3, simprocAttr, -Nat.reduceSubDiff]))
      refine ih (i + 1, i + 1, acc ++ [t.extract a i]) _ (by show t.size - (i + 1) < t.size - i; omega) ⟨h, Nat.le_refl _, by simp only [List.length_append, List.length_cons, List.length_nil]; omega, by rw [cur_nil, ← hy, ext_cur]; simp⟩ ?_
      simp -dsimp (disch := first | omega | (simp only [wr_id, List.map_append, List.length_append, List.length_cons, List.length_nil, List.length_cons, List.length_nil, List.length_map, List.length_append, List.length_take, List.length_drop, List.length_replicate, List.length_set, mkG_len] <;> omega) | fail) only [push_cast, if_pos, decide_eq_true, decide_eq_false, wr_id, List.map_append, List.length_append, List.length_cons, List.length_nil, simprocAttr, -Nat.reduceSubDiff]
    · have hxn : ¬ (x.toNat : Int) = 10 := fun q => e (UInt8.toNat_inj.1 (by show x.toNat = 10; omega))
      rw [if_neg e, ← cur_step hx ha] at hy
      (simp -dsimp (disch := first | omega | (simp only [hx, hxn, List.length_cons, List.length_nil, List.length_map, List.length_append, List.length_take, List.length_drop, List.length_replicate, List.length_set, mkG_len] <;> omega) | fail) only [push_cast, if_pos, decide_eq_true, decide_eq_false, hx, hxn, simprocAttr, -Nat.reduceSubDiff]) <;> (repeat (refine (aw_draw (by kernel_rfl)).2 ?_; simp -dsimp (disch := first | omega | (simp only [hx, hxn, List.length_cons, List.length_nil, List.length_map, List.length_append, List.length_take, List.length_drop, List.length_replicate, List.length_set, mkG_len] <;> omega) | fail) only [push_cast, if_pos, decide_eq_true, decide_eq_false, hx, hxn, simprocAttr, -Nat.reduceSubDiff]))
      refine ih (i + 1, a, acc) _ (by show t.size - (i + 1) < t.size - i; omega) ⟨h, by show a ≤ i + 1; omega, by show acc.length ≤ i + 1; omega, hy⟩ ?_
      simp -dsimp (disch := first | omega | (simp only [wr_id, List.length_cons, List.length_nil, List.length_map, List.length_append, List.length_take, List.length_drop, List.length_replicate, List.length_set, mkG_len] <;> omega) | fail) only [push_cast, if_pos, decide_eq_true, decide_eq_false, wr_id, simprocAttr, -Nat.reduceSubDiff]
  · have hi : i = t.size := by omega
    have hd : (bt t).drop i = [] := List.drop_eq_nil_of_le (by rw [bt_len]; omega)
    rw [hd, cutF] at hy
    have e1 : a + ((t.size : Int) - (a : Int)).toNat = t.size := by omega
    have e2 : ((t.size : Int) - (a : Int)).toNat = t.size - a := by omega
    have e3 : a + (t.size - a) = t.size := by omega
    have hy : acc.map strR ++ [[.sc (.string (t.extract a t.size))]] = M.map strR := by rw [← hy, ext_cur, ← hi]; simp [strR]
    (simp -dsimp (disch := first | omega | (simp only [hi, e1, e2, e3, List.length_cons, List.length_nil, List.length_map, List.length_append, List.length_take, List.length_drop, List.length_replicate, List.length_set, mkG_len] <;> omega) | fail) only [push_cast, if_pos, decide_eq_true, decide_eq_false, hi, e1, e2, e3, simprocAttr, -Nat.reduceSubDiff]) <;> (repeat (refine (aw_draw (by kernel_rfl)).2 ?_; simp -dsimp (disch := first | omega | (simp only [hi, e1, e2, e3, List.length_cons, List.length_nil, List.length_map, List.length_append, List.length_take, List.length_drop, List.length_replicate, List.length_set, mkG_len] <;> omega) | fail) only [push_cast, if_pos, decide_eq_true, decide_eq_false, hi, e1, e2, e3, simprocAttr, -Nat.reduceSubDiff]))
    rw [hy]
def E161 : Env := { T := T0, kp := look [(0, [0]), (1, [0]), (2, [0]), (3, [0])] }
attribute [local push_cast] E161
theorem l3Digit (b : UInt8) : Does Tryz.prog 161 [.sc (.int .u8 b.toNat)] (.sc (.int .i64 (digI b)), []) := by
  refine does_of (E := E161) (rs := [.tmp 2]) (lent := []) tOk rfl Tryz.func161 rfl (by decide) rfl rfl (Nat.le_of_ble_eq_true rfl) (Nat.le_of_ble_eq_true rfl) ?_
  obtain ⟨M, hM⟩ : ∃ M, M = digI b := ⟨_, rfl⟩
  rw [← hM]
  unfold digI at hM
  have hb := b.toNat_lt
  by_cases h1 : 48 ≤ b.toNat
  rotate_left
  · rw [if_neg (by omega)] at hM
    (simp -dsimp (disch := first | omega | (simp only [h1, wr_id, wr_u8, List.length_cons, List.length_nil, List.length_map, List.length_append, List.length_take, List.length_drop, List.length_replicate, List.length_set, mkG_len] <;> omega) | fail) only [push_cast, if_pos, decide_eq_true, decide_eq_false, h1, wr_id, wr_u8, simprocAttr, -Nat.reduceSubDiff]) <;> (repeat (refine (aw_draw (by kernel_rfl)).2 ?_; simp -dsimp (disch := first | omega | (simp only [h1, wr_id, wr_u8, List.length_cons, List.length_nil, List.length_map, List.length_append, List.length_take, List.length_drop, List.length_replicate, List.length_set, mkG_len] <;> omega) | fail) only [push_cast, if_pos, decide_eq_true, decide_eq_false, h1, wr_id, wr_u8, simprocAttr, -Nat.reduceSubDiff]))
    rw [hM]
  by_cases h2 : b.toNat ≤ 57
  rotate_left
  · rw [if_neg (by omega)] at hM
    (simp -dsimp (disch := first | omega | (simp only [h1, h2, wr_id, wr_u8, List.length_cons, List.length_nil, List.length_map, List.length_append, List.length_take, List.length_drop, List.length_replicate, List.length_set, mkG_len] <;> omega) | fail) only [push_cast, if_pos, decide_eq_true, decide_eq_false, h1, h2, wr_id, wr_u8, simprocAttr, -Nat.reduceSubDiff]) <;> (repeat (refine (aw_draw (by kernel_rfl)).2 ?_; simp -dsimp (disch := first | omega | (simp only [h1, h2, wr_id, wr_u8, List.length_cons, List.length_nil, List.length_map, List.length_append, List.length_take, List.length_drop, List.length_replicate, List.length_set, mkG_len] <;> omega) | fail) only [push_cast, if_pos, decide_eq_true, decide_eq_false, h1, h2, wr_id, wr_u8, simprocAttr, -Nat.reduceSubDiff]))
    rw [hM]
  rw [if_pos ⟨h1, h2⟩] at hM
  have e : wr .u8 ((b.toNat : Int) - 48) = (b.toNat : Int) - 48 := by rw [wr_u8]; omega
  (simp -dsimp (disch := first | omega | (simp only [h1, h2, e, wr_id, List.length_cons, List.length_nil, List.length_map, List.length_append, List.length_take, List.length_drop, List.length_replicate, List.length_set, mkG_len] <;> omega) | fail) only [push_cast, if_pos, decide_eq_true, decide_eq_false, h1, h2, e, wr_id, simprocAttr, -Nat.reduceSubDiff]) <;> (repeat (refine (aw_draw (by kernel_rfl)).2 ?_; simp -dsimp (disch := first | omega | (simp only [h1, h2, e, wr_id, List.length_cons, List.length_nil, List.length_map, List.length_append, List.length_take, List.length_drop, List.length_replicate, List.length_set, mkG_len] <;> omega) | fail) only [push_cast, if_pos, decide_eq_true, decide_eq_false, h1, h2, e, wr_id, simprocAttr, -Nat.reduceSubDiff]))
  rw [hM]
def E96 : Env := { T := T0, kp := look [(0, [0]), (1, [0]), (2, [0, 3]), (3, []), (4, [0, 3]), (5, [0, 3, 4]), (6, [0, 3, 4]), (7, [0, 3, 4]), (8, []), (9, [0, 3, 4]), (10, [0, 3]), (11, []), (12, [3])] }
attribute [local push_cast] E96
set_option maxHeartbeats 1000000 in
theorem l3Number (t : Str) (ht : t.size ≤ 100000000) : Does Tryz.prog 96 [.sc (.string t)] (.sc (.int .i64 (numB (bt t))), []) := by
  refine does_of (E := E96) (rs := [.tmp 2]) (lent := []) tOk rfl Tryz.func96 rfl (by decide) rfl rfl (Nat.le_of_ble_eq_true rfl) (Nat.le_of_ble_eq_true rfl) ?_
  obtain ⟨M, hM⟩ : ∃ M, M = numB (bt t) := ⟨_, rfl⟩
  rw [← hM]
  unfold numB at hM
  rw [bt_len] at hM
  by_cases h1 : t.size < 1
  · rw [if_pos (.inl h1)] at hM
    (simp -dsimp (disch := first | omega | (simp only [h1, List.length_cons, List.length_nil, List.length_map, List.length_append, List.length_take, List.length_drop, List.length_replicate, List.length_set, mkG_len] <;> omega) | fail) only [push_cast, if_pos, decide_eq_true, decide_eq_false, h1, simprocAttr, -Nat.reduceSubDiff]) <;> (repeat (refine (aw_draw (by kernel_rfl)).2 ?_; simp -dsimp (disch := first | omega | (simp only [h1, List.length_cons, List.length_nil, List.length_map, List.length_append, List.length_take, List.length_drop, List.length_replicate, List.length_set, mkG_len] <;> omega) | fail) only [push_cast, if_pos, decide_eq_true, decide_eq_false, h1, simprocAttr, -Nat.reduceSubDiff]))
    rw [hM]
  by_cases h2 : 4 < t.size
  · rw [if_pos (.inr h2)] at hM
    (simp -dsimp (disch := first | omega | (simp only [h1, h2, List.length_cons, List.length_nil, List.length_map, List.length_append, List.length_take, List.length_drop, List.length_replicate, List.length_set, mkG_len] <;> omega) | fail) only [push_cast, if_pos, decide_eq_true, decide_eq_false, h1, h2, simprocAttr, -Nat.reduceSubDiff]) <;> (repeat (refine (aw_draw (by kernel_rfl)).2 ?_; simp -dsimp (disch := first | omega | (simp only [h1, h2, List.length_cons, List.length_nil, List.length_map, List.length_append, List.length_take, List.length_drop, List.length_replicate, List.length_set, mkG_len] <;> omega) | fail) only [push_cast, if_pos, decide_eq_true, decide_eq_false, h1, h2, simprocAttr, -Nat.reduceSubDiff]))
    rw [hM]
  rw [if_neg (by omega)] at hM
  (simp -dsimp (disch := first | omega | (simp only [h1, h2, List.length_cons, List.length_nil, List.length_map, List.length_append, List.length_take, List.length_drop, List.length_replicate, List.length_set, mkG_len] <;> omega) | fail) only [push_cast, if_pos, decide_eq_true, decide_eq_false, h1, h2, simprocAttr, -Nat.reduceSubDiff]) <;> (repeat (refine (aw_draw (by kernel_rfl)).2 ?_; simp -dsimp (disch := first | omega | (simp only [h1, h2, List.length_cons, List.length_nil, List.length_map, List.length_append, List.length_take, List.length_drop, List.length_replicate, List.length_set, mkG_len] <;> omega) | fail) only [push_cast, if_pos, decide_eq_true, decide_eq_false, h1, h2, simprocAttr, -Nat.reduceSubDiff]))
  refine loop_ind (α := Nat × Nat) (fun q => q.1 ≤ t.size ∧ q.2 + 1 ≤ 10 ^ q.1 ∧ Lib.decFrom q.2 ((bt t).drop q.1) = Lib.decFrom 0 (bt t))
    (fun q => ⟨[(0, .sc (.string t)), (3, .sc (.int .i64 q.2)), (4, .sc (.int .i64 q.1))], [], 1⟩) (fun q => t.size - q.1) (0, 0) ⟨Nat.zero_le _, by simp, rfl⟩ ?_ ?_
  · simp -dsimp (disch := first | omega | (simp only [List.length_cons, List.length_nil, List.length_map, List.length_append, List.length_take, List.length_drop, List.length_replicate, List.length_set, mkG_len] <;> omega) | fail) only [push_cast, if_pos, decide_eq_true, decide_eq_false, simprocAttr, -Nat.reduceSubDiff]
  rintro ⟨i, n⟩ ⟨hi, hn, hy⟩ ih
  replace hi : i ≤ t.size := hi
  replace hn : n + 1 ≤ 10 ^ i := hn
  replace hy : Lib.decFrom n ((bt t).drop i) = Lib.decFrom 0 (bt t) := hy
  have hn4 : n ≤ 10000 := by
    have : 10 ^ i ≤ 10 ^ 4 := Nat.pow_le_pow_right (by omega) (by omega)
    omega
  by_cases h : i < t.size
  · obtain ⟨x, hx⟩ := ex_get (by rw [bt_len]; exact h : i < (bt t).length)
    have hb := x.toNat_lt
    rw [drop_step hx, Lib.decFrom, Lib.digitVal] at hy
    have bad : ¬ (48 ≤ x.toNat ∧ x.toNat ≤ 57) → M = -1 := fun hc => by
      rw [if_neg hc] at hy
      rw [hM, ← hy]
    by_cases a1 : 48 ≤ x.toNat
    rotate_left
    · have hM := bad (by omega)
      (simp -dsimp (disch := first | omega | (simp only [hx, a1, hM, List.length_cons, List.length_nil, List.length_map, List.length_append, List.length_take, List.length_drop, List.length_replicate, List.length_set, mkG_len] <;> omega) | fail) only [push_cast, if_pos, decide_eq_true, decide_eq_false, hx, a1, hM, simprocAttr, -Nat.reduceSubDiff]) <;> (repeat (refine (aw_draw (by kernel_rfl)).2 ?_; simp -dsimp (disch := first | omega | (simp only [hx, a1, hM, List.length_cons, List.length_nil, List.length_map, List.length_append, List.length_take, List.length_drop, List.length_replicate, List.length_set, mkG_len] <;> omega) | fail) only [push_cast, if_pos, decide_eq_true, decide_eq_false, hx, a1, hM, simprocAttr, -Nat.reduceSubDiff]))
    by_cases a2 : x.toNat ≤ 57
    rotate_left
    · have hM := bad (by omega)
      (simp -dsimp (disch := first | omega | (simp only [hx, a1, a2, hM, List.length_cons, List.length_nil, List.length_map, List.length_append, List.length_take, List.length_drop, List.length_replicate, List.length_set, mkG_len] <;> omega) | fail) only [push_cast, if_pos, decide_eq_true, decide_eq_false, hx, a1, a2, hM, simprocAttr, -Nat.reduceSubDiff]) <;> (repeat (refine (aw_draw (by kernel_rfl)).2 ?_; simp -dsimp (disch := first | omega | (simp only [hx, a1, a2, hM, List.length_cons, List.length_nil, List.length_map, List.length_append, List.length_take, List.length_drop, List.length_replicate, List.length_set, mkG_len] <;> omega) | fail) only [push_cast, if_pos, decide_eq_true, decide_eq_false, hx, a1, a2, hM, simprocAttr, -Nat.reduceSubDiff]))
    rw [if_pos ⟨a1, a2⟩] at hy
    simp only at hy
    have e : wr .u8 ((x.toNat : Int) - 48) = (x.toNat : Int) - 48 := by rw [wr_u8]; omega
    have e2 : ((x.toNat : Int) - 48) = ((x.toNat - 48 : Nat) : Int) := by omega
    obtain ⟨d, hd⟩ : ∃ d, d = x.toNat - 48 := ⟨_, rfl⟩
    rw [← hd] at e2 hy
    have hd9 : d ≤ 9 := by omega
    rw [e2] at e
    clear hd
    (simp -dsimp (disch := first | omega | (simp only [hx, a1, a2, e2, wr_id, List.length_cons, List.length_nil, List.length_map, List.length_append, List.length_take, List.length_drop, List.length_replicate, List.length_set, mkG_len] <;> omega) | fail) only [push_cast, if_pos, decide_eq_true, decide_eq_false, hx, a1, a2, e2, wr_id, simprocAttr, -Nat.reduceSubDiff]) <;> (repeat (refine (aw_draw (by kernel_rfl)).2 ?_; simp -dsimp (disch := first | omega | (simp only [hx, a1, a2, e2, wr_id, List.length_cons, List.length_nil, List.length_map, List.length_append, List.length_take, List.length_drop, List.length_replicate, List.length_set, mkG_len] <;> omega) | fail) only [push_cast, if_pos, decide_eq_true, decide_eq_false, hx, a1, a2, e2, wr_id, simprocAttr, -Nat.reduceSubDiff]))
    refine ih (i + 1, n * 10 + d) _ (by show t.size - (i + 1) < t.size - i; omega) ⟨h, by show n * 10 + d + 1 ≤ 10 ^ (i + 1); rw [Nat.pow_succ]; omega, hy⟩ ?_
    simp -dsimp (disch := first | omega | (simp only [wr_id, e, e2, List.length_cons, List.length_nil, List.length_map, List.length_append, List.length_take, List.length_drop, List.length_replicate, List.length_set, mkG_len] <;> omega) | fail) only [push_cast, if_pos, decide_eq_true, decide_eq_false, wr_id, e, e2, simprocAttr, -Nat.reduceSubDiff]
  · have hi : i = t.size := by omega
    have hd : (bt t).drop i = [] := List.drop_eq_nil_of_le (by rw [bt_len]; omega)
    rw [hd, Lib.decFrom] at hy
    rw [← hy] at hM
    simp only at hM
    (simp -dsimp (disch := first | omega | (simp only [h, List.length_cons, List.length_nil, List.length_map, List.length_append, List.length_take, List.length_drop, List.length_replicate, List.length_set, mkG_len] <;> omega) | fail) only [push_cast, if_pos, decide_eq_true, decide_eq_false, h, simprocAttr, -Nat.reduceSubDiff]) <;> (repeat (refine (aw_draw (by kernel_rfl)).2 ?_; simp -dsimp (disch := first | omega | (simp only [h, List.length_cons, List.length_nil, List.length_map, List.length_append, List.length_take, List.length_drop, List.length_replicate, List.length_set, mkG_len] <;> omega) | fail) only [push_cast, if_pos, decide_eq_true, decide_eq_false, h, simprocAttr, -Nat.reduceSubDiff]))
    refine callC (l3Dec n (by omega)) ?_
    by_cases e : Lib.decDigits n = bt t
    · rw [if_pos e] at hM
      have e2 : stB (Lib.decDigits n) = t := by rw [e, stB_bt]
      (simp -dsimp (disch := first | omega | (simp only [e2, List.length_cons, List.length_nil, List.length_map, List.length_append, List.length_take, List.length_drop, List.length_replicate, List.length_set, mkG_len] <;> omega) | fail) only [push_cast, if_pos, decide_eq_true, decide_eq_false, e2, simprocAttr, -Nat.reduceSubDiff]) <;> (repeat (refine (aw_draw (by kernel_rfl)).2 ?_; simp -dsimp (disch := first | omega | (simp only [e2, List.length_cons, List.length_nil, List.length_map, List.length_append, List.length_take, List.length_drop, List.length_replicate, List.length_set, mkG_len] <;> omega) | fail) only [push_cast, if_pos, decide_eq_true, decide_eq_false, e2, simprocAttr, -Nat.reduceSubDiff]))
      rw [hM]
    · rw [if_neg e] at hM
      have e2 : ¬ stB (Lib.decDigits n) = t := fun q => e (by rw [← q, bt_stB])
      (simp -dsimp (disch := first | omega | (simp only [e2, List.length_cons, List.length_nil, List.length_map, List.length_append, List.length_take, List.length_drop, List.length_replicate, List.length_set, mkG_len] <;> omega) | fail) only [push_cast, if_pos, decide_eq_true, decide_eq_false, e2, simprocAttr, -Nat.reduceSubDiff]) <;> (repeat (refine (aw_draw (by kernel_rfl)).2 ?_; simp -dsimp (disch := first | omega | (simp only [e2, List.length_cons, List.length_nil, List.length_map, List.length_append, List.length_take, List.length_drop, List.length_replicate, List.length_set, mkG_len] <;> omega) | fail) only [push_cast, if_pos, decide_eq_true, decide_eq_false, e2, simprocAttr, -Nat.reduceSubDiff]))
      rw [hM]
end Go.Proofs.YtgkncgiglmdnaaaGreatDoor.Mx

/- Lists' texts read again: the reference. -/
namespace Go.Proofs.YtgkncgiglmdnaaaGreatDoor.Mx
set_option linter.all false
open Go Go.RowKit Go.Proofs
set_option linter.unusedSimpArgs false
theorem digI_r (b : UInt8) : -87 ≤ digI b ∧ digI b ≤ 255 := by
  unfold digI
  have := b.toNat_lt
  split <;> omega
def E97 : Env := { T := T0, kp := look [(0, [0]), (1, [0]), (2, [0, 3]), (3, [0, 3, 4]), (4, [0, 3, 4]), (5, [0, 3, 4]), (6, [3])], dp := look2 [(5, [[], [], [], [1, 2], [1, 2, 3], [1, 2, 3, 4], [], [], [7], [6, 7, 8], [1, 2, 3, 4, 6, 7, 8, 9], [1, 2, 3, 4, 5, 6, 7, 8, 9, 10], [1, 2, 3, 4, 5, 6, 7, 8, 9, 10, 11], [1, 2, 3, 4, 5, 6, 7, 8, 9, 10, 11, 12], [0, 1, 2, 3, 4, 5, 6, 7, 8, 9, 10, 11, 12, 13], [0, 1, 2, 3, 4, 5, 6, 7, 8, 9, 10, 11, 12, 13, 14]])] }
attribute [local push_cast] E97
set_option maxRecDepth 20000 in
set_option maxHeartbeats 1000000 in
theorem l3Bytes (t : Str) (ht : t.size ≤ 100000000) : Does Tryz.prog 97 [.sc (.string t)] (.sc (.string (stB (unhex (bt t)))), []) := by
  refine does_of (E := E97) (rs := [.tmp 2]) (lent := []) tOk rfl Tryz.func97 rfl (by decide) rfl rfl (Nat.le_of_ble_eq_true rfl) (Nat.le_of_ble_eq_true rfl) ?_
  obtain ⟨M, hM⟩ : ∃ M, M = unhex (bt t) := ⟨_, rfl⟩
  rw [← hM]
  (simp -dsimp (disch := first | omega | (simp only [List.length_cons, List.length_nil, List.length_map, List.length_append, List.length_take, List.length_drop, List.length_replicate, List.length_set, mkG_len] <;> omega) | fail) only [push_cast, if_pos, decide_eq_true, decide_eq_false, simprocAttr, -Nat.reduceSubDiff]) <;> (repeat (refine (aw_draw (by kernel_rfl)).2 ?_; simp -dsimp (disch := first | omega | (simp only [List.length_cons, List.length_nil, List.length_map, List.length_append, List.length_take, List.length_drop, List.length_replicate, List.length_set, mkG_len] <;> omega) | fail) only [push_cast, if_pos, decide_eq_true, decide_eq_false, simprocAttr, -Nat.reduceSubDiff]))
  refine loop_ind (α := Nat × List UInt8) (fun q => q.1 ≤ t.size ∧ q.2.length ≤ q.1 ∧ q.2 ++ unhex ((bt t).drop q.1) = M)
    (fun q => ⟨[(0, .sc (.string t)), (3, .ow 1 0 q.2.length), (4, .sc (.int .i64 q.1))], [(1, .ar 1 0 (q.2.map byteRow))], 2⟩) (fun q => t.size - q.1) (0, []) ⟨Nat.zero_le _, Nat.le_refl _, by simp [hM]⟩ ?_ ?_
  · simp -dsimp (disch := first | omega | (simp only [List.length_cons, List.length_nil, List.length_map, List.length_append, List.length_take, List.length_drop, List.length_replicate, List.length_set, mkG_len] <;> omega) | fail) only [push_cast, if_pos, decide_eq_true, decide_eq_false, simprocAttr, -Nat.reduceSubDiff]
  rintro ⟨i, B⟩ ⟨hi, hB, hy⟩ ih
  replace hi : i ≤ t.size := hi
  replace hB : B.length ≤ i := hB
  replace hy : B ++ unhex ((bt t).drop i) = M := hy
  by_cases h : i + 1 < t.size
  · obtain ⟨x, hx⟩ := ex_get (by rw [bt_len]; omega : i < (bt t).length)
    obtain ⟨y, hz⟩ := ex_get (by rw [bt_len]; exact h : i + 1 < (bt t).length)
    rw [drop_step hx, drop_step hz, unhex] at hy
    have rx := digI_r x
    have ry := digI_r y
    have e1 : ((i : Int) + 1).toNat = i + 1 := by omega
    have e4 := byteRow_of (v := (16 * digI x + digI y) % 256) (by omega) (by omega)
    have e6 : (i : Int) + 1 + 1 = i + 2 := by omega
    have e5 : wr .u8 (16 * digI x + digI y) = (16 * digI x + digI y) % 256 := wr_u8 _
    (simp -dsimp (disch := first | omega | (simp only [h, hx, hz, e1, wr_id, List.length_cons, List.length_nil, List.length_map, List.length_append, List.length_take, List.length_drop, List.length_replicate, List.length_set, mkG_len] <;> omega) | fail) only [push_cast, if_pos, decide_eq_true, decide_eq_false, h, hx, hz, e1, wr_id, simprocAttr, -Nat.reduceSubDiff]) <;> (repeat (refine (aw_draw (by kernel_rfl)).2 ?_; simp -dsimp (disch := first | omega | (simp only [h, hx, hz, e1, wr_id, List.length_cons, List.length_nil, List.length_map, List.length_append, List.length_take, List.length_drop, List.length_replicate, List.length_set, mkG_len] <;> omega) | fail) only [push_cast, if_pos, decide_eq_true, decide_eq_false, h, hx, hz, e1, wr_id, simprocAttr, -Nat.reduceSubDiff]))
    refine callC (l3Digit x) ?_
    (simp -dsimp (disch := first | omega | (simp only [h, hx, hz, e1, wr_id, List.length_cons, List.length_nil, List.length_map, List.length_append, List.length_take, List.length_drop, List.length_replicate, List.length_set, mkG_len] <;> omega) | fail) only [push_cast, if_pos, decide_eq_true, decide_eq_false, h, hx, hz, e1, wr_id, simprocAttr, -Nat.reduceSubDiff]) <;> (repeat (refine (aw_draw (by kernel_rfl)).2 ?_; simp -dsimp (disch := first | omega | (simp only [h, hx, hz, e1, wr_id, List.length_cons, List.length_nil, List.length_map, List.length_append, List.length_take, List.length_drop, List.length_replicate, List.length_set, mkG_len] <;> omega) | fail) only [push_cast, if_pos, decide_eq_true, decide_eq_false, h, hx, hz, e1, wr_id, simprocAttr, -Nat.reduceSubDiff]))
    refine callC (l3Digit y) ?_
    (simp -dsimp (disch := first | omega | (simp only [h, hx, hz, e1, e5, wr_id, List.length_cons, List.length_nil, List.length_map, List.length_append, List.length_take, List.length_drop, List.length_replicate, List.length_set, mkG_len] <;> omega) | fail) only [push_cast, if_pos, decide_eq_true, decide_eq_false, h, hx, hz, e1, e5, wr_id, simprocAttr, -Nat.reduceSubDiff]) <;> (repeat (refine (aw_draw (by kernel_rfl)).2 ?_; simp -dsimp (disch := first | omega | (simp only [h, hx, hz, e1, e5, wr_id, List.length_cons, List.length_nil, List.length_map, List.length_append, List.length_take, List.length_drop, List.length_replicate, List.length_set, mkG_len] <;> omega) | fail) only [push_cast, if_pos, decide_eq_true, decide_eq_false, h, hx, hz, e1, e5, wr_id, simprocAttr, -Nat.reduceSubDiff]))
    refine ih (i + 2, B ++ [UInt8.ofNat ((16 * digI x + digI y) % 256).toNat]) _ (by show t.size - (i + 2) < t.size - i; omega) ⟨by show i + 2 ≤ t.size; omega, by simp only [List.length_append, List.length_cons, List.length_nil]; omega, by rw [← hy]; simp⟩ ?_
    simp -dsimp (disch := first | omega | (simp only [wr_id, List.map_append, List.length_append, List.length_cons, List.length_nil, List.map_cons, List.map_nil, ← e4, e6, List.length_cons, List.length_nil, List.length_map, List.length_append, List.length_take, List.length_drop, List.length_replicate, List.length_set, mkG_len] <;> omega) | fail) only [push_cast, if_pos, decide_eq_true, decide_eq_false, wr_id, List.map_append, List.length_append, List.length_cons, List.length_nil, List.map_cons, List.map_nil, ← e4, e6, simprocAttr, -Nat.reduceSubDiff]
  · have hd : unhex ((bt t).drop i) = [] := by
      have hl : ((bt t).drop i).length ≤ 1 := by rw [List.length_drop, bt_len]; omega
      match (bt t).drop i, hl with
      | [], _ => rfl
      | [_], _ => rfl
      | _ :: _ :: _, hl => simp at hl
    rw [hd, List.append_nil] at hy
    subst hy
    (simp -dsimp (disch := first | omega | (simp only [h, wr_id, List.length_cons, List.length_nil, List.length_map, List.length_append, List.length_take, List.length_drop, List.length_replicate, List.length_set, mkG_len] <;> omega) | fail) only [push_cast, if_pos, decide_eq_true, decide_eq_false, h, wr_id, simprocAttr, -Nat.reduceSubDiff]) <;> (repeat (refine (aw_draw (by kernel_rfl)).2 ?_; simp -dsimp (disch := first | omega | (simp only [h, wr_id, List.length_cons, List.length_nil, List.length_map, List.length_append, List.length_take, List.length_drop, List.length_replicate, List.length_set, mkG_len] <;> omega) | fail) only [push_cast, if_pos, decide_eq_true, decide_eq_false, h, wr_id, simprocAttr, -Nat.reduceSubDiff]))
    rfl
theorem cut_head {c : UInt8} : ∀ (r cur : List UInt8), ∃ q L, cutF c [] cur r = (cur ++ q) :: L
  | [], cur => ⟨[], [], by simp [cutF]⟩
  | x :: r, cur => by
    rw [cutF]
    split
    · exact ⟨[], cutF c [] [] r, by rw [cutF_acc]; simp⟩
    · obtain ⟨q, L, h⟩ := cut_head r (cur ++ [x])
      exact ⟨x :: q, L, by rw [h]; simp⟩
theorem cut_size {s : List UInt8} (h : s.take 5 = sizB) : ∃ q L, cutL 10 s = (sizB ++ q) :: L := by
  have e : s = sizB ++ s.drop 5 := by rw [← h, List.take_append_drop]
  unfold cutL
  rw [e, cutF_skip (by decide), List.nil_append]
  exact cut_head _ _
theorem sizS_iff {t : Str} (h : 6 ≤ t.size) : t.extract 0 5 = ⟨#[115, 105, 122, 101, 32]⟩ ↔ (bt t).take 5 = sizB := by
  rw [ext_cur, show curB t 0 5 = (bt t).take 5 by unfold curB; rw [List.drop_zero]]
  have e : (⟨#[115, 105, 122, 101, 32]⟩ : ByteArray) = stB sizB := rfl
  rw [e]
  exact ⟨fun q => by have := congrArg bt q; rwa [bt_stB, bt_stB] at this, fun q => by rw [q]⟩
def E25 : Env := { T := T0, kp := look [(0, [0, 1]), (1, [0, 1, 4]), (2, [4]), (3, [0, 1, 4]), (4, [0, 1, 4, 6]), (5, [0, 1, 4, 6, 7]), (6, [0, 1, 4, 6, 7, 8]), (7, [0, 1, 4, 6, 7, 8]), (8, [0, 1, 4, 6, 7, 8]), (9, [0, 1, 4, 7]), (10, [4]), (11, [4, 7])], dp := look2 [(8, [[], [0], [], [], [2, 3], [2, 3, 4], [2, 3, 4, 5], [2, 3, 4, 5, 6], [0, 1, 2, 3, 4, 5, 6, 7], [0, 1, 2, 3, 4, 5, 6, 7, 8], [0, 1, 2, 3, 4, 5, 6, 7, 8, 9]])] }
attribute [local push_cast] E25
set_option maxRecDepth 20000 in
set_option maxHeartbeats 1000000 in
theorem specReadList (t : Str) (w : Int) (ht : t.size ≤ 100000000) : Does Tryz.prog 25 [.sc (.string t), .sc (.int .i64 w)] (.tu [.ag (lstC true (readL t w).1), .sc (.bool (readL t w).2)], []) := by
  refine does_of (E := E25) (rs := [.cell 4 27, .tmp 5]) (lent := []) tOk rfl Tryz.func25 rfl (by decide) rfl rfl (Nat.le_of_ble_eq_true rfl) (Nat.le_of_ble_eq_true rfl) ?_
  obtain ⟨M, hM⟩ : ∃ M, M = readL t w := ⟨_, rfl⟩
  rw [← hM]
  by_cases h1 : t.size < 6
  · rw [read_out (.inl h1)] at hM
    subst hM
    (simp -dsimp (disch := first | omega | (simp only [h1, List.length_cons, List.length_nil, List.length_map, List.length_append, List.length_take, List.length_drop, List.length_replicate, List.length_set, mkG_len] <;> omega) | fail) only [push_cast, if_pos, decide_eq_true, decide_eq_false, h1, simprocAttr, -Nat.reduceSubDiff]) <;> (repeat (refine (aw_draw (by kernel_rfl)).2 ?_; simp -dsimp (disch := first | omega | (simp only [h1, List.length_cons, List.length_nil, List.length_map, List.length_append, List.length_take, List.length_drop, List.length_replicate, List.length_set, mkG_len] <;> omega) | fail) only [push_cast, if_pos, decide_eq_true, decide_eq_false, h1, simprocAttr, -Nat.reduceSubDiff]))
  by_cases h2 : 7000 < t.size
  · rw [read_out (.inr (.inl h2))] at hM
    subst hM
    (simp -dsimp (disch := first | omega | (simp only [h1, h2, List.length_cons, List.length_nil, List.length_map, List.length_append, List.length_take, List.length_drop, List.length_replicate, List.length_set, mkG_len] <;> omega) | fail) only [push_cast, if_pos, decide_eq_true, decide_eq_false, h1, h2, simprocAttr, -Nat.reduceSubDiff]) <;> (repeat (refine (aw_draw (by kernel_rfl)).2 ?_; simp -dsimp (disch := first | omega | (simp only [h1, h2, List.length_cons, List.length_nil, List.length_map, List.length_append, List.length_take, List.length_drop, List.length_replicate, List.length_set, mkG_len] <;> omega) | fail) only [push_cast, if_pos, decide_eq_true, decide_eq_false, h1, h2, simprocAttr, -Nat.reduceSubDiff]))
  have hsz := sizS_iff (t := t) (by omega)
  by_cases h3 : t.extract 0 5 = ⟨#[115, 105, 122, 101, 32]⟩
  rotate_left
  · rw [read_out (.inr (.inr fun q => h3 (hsz.2 q)))] at hM
    subst hM
    (simp -dsimp (disch := first | omega | (simp only [h1, h2, h3, List.length_cons, List.length_nil, List.length_map, List.length_append, List.length_take, List.length_drop, List.length_replicate, List.length_set, mkG_len] <;> omega) | fail) only [push_cast, if_pos, decide_eq_true, decide_eq_false, h1, h2, h3, simprocAttr, -Nat.reduceSubDiff]) <;> (repeat (refine (aw_draw (by kernel_rfl)).2 ?_; simp -dsimp (disch := first | omega | (simp only [h1, h2, h3, List.length_cons, List.length_nil, List.length_map, List.length_append, List.length_take, List.length_drop, List.length_replicate, List.length_set, mkG_len] <;> omega) | fail) only [push_cast, if_pos, decide_eq_true, decide_eq_false, h1, h2, h3, simprocAttr, -Nat.reduceSubDiff]))
  obtain ⟨q, L, hc⟩ := cut_size (hsz.1 h3)
  rw [read_spec (by omega)] at hM
  obtain ⟨P, hP⟩ : ∃ P, P = parseL t := ⟨_, rfl⟩
  rw [← hP] at hM
  unfold parseL at hP
  have hLn := cutF_len 10 (bt t) [] []
  have hLs := cutF_sz 10 (bt t) [] [] t.size (by simp) (by rw [bt_len]; simp)
  rw [show cutF 10 [] [] (bt t) = cutL 10 (bt t) from rfl, hc] at hLn hLs
  rw [bt_len, List.length_cons, List.length_nil] at hLn
  rw [hc] at hP
  have hP : P = ⟨numB q, (L.take (L.length - 1)).map fun x => stB (unhex x)⟩ := by
    rw [hP]
    have e1 : ((((sizB ++ q) :: L).getD 0 []).drop 5) = q := List.drop_left' rfl
    rw [e1]
    simp
  have hq0 := hLs _ (List.mem_cons_self ..)
  have hq5 : (sizB ++ q).length = 5 + q.length := by rw [List.length_append]; rfl
  (simp -dsimp (disch := first | omega | (simp only [h1, h2, h3, List.length_cons, List.length_nil, List.length_map, List.length_append, List.length_take, List.length_drop, List.length_replicate, List.length_set, mkG_len] <;> omega) | fail) only [push_cast, if_pos, decide_eq_true, decide_eq_false, h1, h2, h3, simprocAttr, -Nat.reduceSubDiff]) <;> (repeat (refine (aw_draw (by kernel_rfl)).2 ?_; simp -dsimp (disch := first | omega | (simp only [h1, h2, h3, List.length_cons, List.length_nil, List.length_map, List.length_append, List.length_take, List.length_drop, List.length_replicate, List.length_set, mkG_len] <;> omega) | fail) only [push_cast, if_pos, decide_eq_true, decide_eq_false, h1, h2, h3, simprocAttr, -Nat.reduceSubDiff]))
  refine callC (l3Cut t ht) ?_
  rw [hc]
  have hx5 : (stB (sizB ++ q)).size = 5 + q.length := by rw [stB_size, hq5]
  have hxe : (stB (sizB ++ q)).extract 5 (5 + q.length) = stB q := by
    rw [ext_cur]
    unfold curB
    rw [bt_stB, List.take_of_length_le (by omega), show (sizB ++ q).drop 5 = q from List.drop_left' rfl]
  have hxi : 5 + ((5 : Int) + (q.length : Int) - 5).toNat = 5 + q.length := by omega
  (simp -dsimp (disch := first | omega | (simp only [hx5, hxe, hxi, List.length_cons, List.length_nil, List.length_map, List.length_append, List.length_take, List.length_drop, List.length_replicate, List.length_set, mkG_len] <;> omega) | fail) only [push_cast, if_pos, decide_eq_true, decide_eq_false, hx5, hxe, hxi, simprocAttr, -Nat.reduceSubDiff]) <;> (repeat (refine (aw_draw (by kernel_rfl)).2 ?_; simp -dsimp (disch := first | omega | (simp only [hx5, hxe, hxi, List.length_cons, List.length_nil, List.length_map, List.length_append, List.length_take, List.length_drop, List.length_replicate, List.length_set, mkG_len] <;> omega) | fail) only [push_cast, if_pos, decide_eq_true, decide_eq_false, hx5, hxe, hxi, simprocAttr, -Nat.reduceSubDiff]))
  refine callC (l3Number (stB q) (by rw [stB_size]; omega)) ?_
  rw [bt_stB]
  (simp -dsimp (disch := first | omega | (simp only [hx5, hxe, hxi, List.length_cons, List.length_nil, List.length_map, List.length_append, List.length_take, List.length_drop, List.length_replicate, List.length_set, mkG_len] <;> omega) | fail) only [push_cast, if_pos, decide_eq_true, decide_eq_false, hx5, hxe, hxi, simprocAttr, -Nat.reduceSubDiff]) <;> (repeat (refine (aw_draw (by kernel_rfl)).2 ?_; simp -dsimp (disch := first | omega | (simp only [hx5, hxe, hxi, List.length_cons, List.length_nil, List.length_map, List.length_append, List.length_take, List.length_drop, List.length_replicate, List.length_set, mkG_len] <;> omega) | fail) only [push_cast, if_pos, decide_eq_true, decide_eq_false, hx5, hxe, hxi, simprocAttr, -Nat.reduceSubDiff]))
  refine loop_ind (α := Nat) (fun j => j ≤ L.length - 1)
    (fun j => ⟨[(0, .sc (.string t)), (1, .sc (.int .i64 w)), (4, .pt 1 0 0), (6, .ow 3 0 (L.length + 1)), (7, .pt 4 0 0), (8, .sc (.int .i64 (j + 1)))],
      [(1, .bx [.sc (.int .i64 0), .ow 2 0 0]), (2, .ar 1 0 []), (3, .ar 1 0 (strR (stB (sizB ++ q)) :: (L.map stB).map strR)), (4, .bx [.sc (.int .i64 (numB q)), .ow 5 0 ((L.take j).map fun x => stB (unhex x)).length]), (5, .ar 1 0 (((L.take j).map fun x => stB (unhex x)).map strR))], 6⟩) (fun j => L.length - j) 0 (Nat.zero_le _) ?_ ?_
  · simp -dsimp (disch := first | omega | (simp only [List.take_zero, List.map_nil, List.length_cons, List.length_nil, List.length_map, List.length_append, List.length_take, List.length_drop, List.length_replicate, List.length_set, mkG_len] <;> omega) | fail) only [push_cast, if_pos, decide_eq_true, decide_eq_false, List.take_zero, List.map_nil, simprocAttr, -Nat.reduceSubDiff]
  intro j hj ih
  have hjl : ((L.take j).map fun x => stB (unhex x)).length = j := by rw [List.length_map, List.length_take]; omega
  by_cases h : j + 1 < L.length
  · obtain ⟨x, hx⟩ := ex_get (show j < L.length by omega)
    have hxs := hLs x (List.mem_cons_of_mem _ (List.mem_of_getElem? hx))
    have hst : ((L.take (j + 1)).map fun x => stB (unhex x)) = ((L.take j).map fun x => stB (unhex x)) ++ [stB (unhex x)] := by rw [take_step hx, List.map_append]; rfl
    have e1 : ((j : Int) + 1).toNat = j + 1 := by omega
    obtain ⟨D, hD⟩ : ∃ D, D = ((L.take j).map fun x => stB (unhex x)) := ⟨_, rfl⟩
    rw [← hD] at hjl hst ⊢
    (simp -dsimp (disch := first | omega | (simp only [h, hx, e1, wr_id, List.length_cons, List.length_nil, List.length_map, List.length_append, List.length_take, List.length_drop, List.length_replicate, List.length_set, mkG_len] <;> omega) | fail) only [push_cast, if_pos, decide_eq_true, decide_eq_false, h, hx, e1, wr_id, simprocAttr, -Nat.reduceSubDiff]) <;> (repeat (refine (aw_draw (by kernel_rfl)).2 ?_; simp -dsimp (disch := first | omega | (simp only [h, hx, e1, wr_id, List.length_cons, List.length_nil, List.length_map, List.length_append, List.length_take, List.length_drop, List.length_replicate, List.length_set, mkG_len] <;> omega) | fail) only [push_cast, if_pos, decide_eq_true, decide_eq_false, h, hx, e1, wr_id, simprocAttr, -Nat.reduceSubDiff]))
    refine callC (l3Bytes (stB x) (by rw [stB_size]; omega)) ?_
    rw [bt_stB]
    (simp -dsimp (disch := first | omega | (simp only [h, hx, e1, wr_id, List.length_cons, List.length_nil, List.length_map, List.length_append, List.length_take, List.length_drop, List.length_replicate, List.length_set, mkG_len] <;> omega) | fail) only [push_cast, if_pos, decide_eq_true, decide_eq_false, h, hx, e1, wr_id, simprocAttr, -Nat.reduceSubDiff]) <;> (repeat (refine (aw_draw (by kernel_rfl)).2 ?_; simp -dsimp (disch := first | omega | (simp only [h, hx, e1, wr_id, List.length_cons, List.length_nil, List.length_map, List.length_append, List.length_take, List.length_drop, List.length_replicate, List.length_set, mkG_len] <;> omega) | fail) only [push_cast, if_pos, decide_eq_true, decide_eq_false, h, hx, e1, wr_id, simprocAttr, -Nat.reduceSubDiff]))
    refine ih (j + 1) _ (by omega) (by omega) ?_
    rw [hst]
    simp -dsimp (disch := first | omega | (simp only [wr_id, List.map_append, List.length_append, List.length_cons, List.length_nil, List.map_cons, List.map_nil, List.length_cons, List.length_nil, List.length_map, List.length_append, List.length_take, List.length_drop, List.length_replicate, List.length_set, mkG_len] <;> omega) | fail) only [push_cast, if_pos, decide_eq_true, decide_eq_false, wr_id, List.map_append, List.length_append, List.length_cons, List.length_nil, List.map_cons, List.map_nil, simprocAttr, -Nat.reduceSubDiff]
  · have hj : j = L.length - 1 := by omega
    have hPj : P = ⟨numB q, (L.take j).map fun x => stB (unhex x)⟩ := by rw [hP, hj]
    have hPS : ((L.take j).map fun x => stB (unhex x)) = P.S := by rw [hPj]
    have hPz : numB q = P.sz := by rw [hPj]
    rw [hPS, hPz]
    rw [hPS] at hjl
    (simp -dsimp (disch := first | omega | (simp only [h, wr_id, List.length_cons, List.length_nil, List.length_map, List.length_append, List.length_take, List.length_drop, List.length_replicate, List.length_set, mkG_len] <;> omega) | fail) only [push_cast, if_pos, decide_eq_true, decide_eq_false, h, wr_id, simprocAttr, -Nat.reduceSubDiff]) <;> (repeat (refine (aw_draw (by kernel_rfl)).2 ?_; simp -dsimp (disch := first | omega | (simp only [h, wr_id, List.length_cons, List.length_nil, List.length_map, List.length_append, List.length_take, List.length_drop, List.length_replicate, List.length_set, mkG_len] <;> omega) | fail) only [push_cast, if_pos, decide_eq_true, decide_eq_false, h, wr_id, simprocAttr, -Nat.reduceSubDiff]))
    refine callC (specFormList P w (by omega)) ?_
    by_cases e : formL P w = t
    · rw [if_pos e] at hM
      subst hM
      (simp -dsimp (disch := first | omega | (simp only [e, List.length_cons, List.length_nil, List.length_map, List.length_append, List.length_take, List.length_drop, List.length_replicate, List.length_set, mkG_len] <;> omega) | fail) only [push_cast, if_pos, decide_eq_true, decide_eq_false, e, simprocAttr, -Nat.reduceSubDiff]) <;> (repeat (refine (aw_draw (by kernel_rfl)).2 ?_; simp -dsimp (disch := first | omega | (simp only [e, List.length_cons, List.length_nil, List.length_map, List.length_append, List.length_take, List.length_drop, List.length_replicate, List.length_set, mkG_len] <;> omega) | fail) only [push_cast, if_pos, decide_eq_true, decide_eq_false, e, simprocAttr, -Nat.reduceSubDiff]))
    · rw [if_neg e] at hM
      subst hM
      (simp -dsimp (disch := first | omega | (simp only [e, List.length_cons, List.length_nil, List.length_map, List.length_append, List.length_take, List.length_drop, List.length_replicate, List.length_set, mkG_len] <;> omega) | fail) only [push_cast, if_pos, decide_eq_true, decide_eq_false, e, simprocAttr, -Nat.reduceSubDiff]) <;> (repeat (refine (aw_draw (by kernel_rfl)).2 ?_; simp -dsimp (disch := first | omega | (simp only [e, List.length_cons, List.length_nil, List.length_map, List.length_append, List.length_take, List.length_drop, List.length_replicate, List.length_set, mkG_len] <;> omega) | fail) only [push_cast, if_pos, decide_eq_true, decide_eq_false, e, simprocAttr, -Nat.reduceSubDiff]))
end Go.Proofs.YtgkncgiglmdnaaaGreatDoor.Mx

/- Lists' texts read again: the program. -/
namespace Go.Proofs.YtgkncgiglmdnaaaGreatDoor.Mx
set_option linter.all false
open Go Go.RowKit Go.Proofs
set_option linter.unusedSimpArgs false
theorem pre_of {s p : List UInt8} (h : Lib.hasPrefix s p = true) : ∃ q, s = p ++ q ∧ Lib.trimPrefix s p = q := by
  unfold Lib.trimPrefix
  rw [if_pos h]
  obtain ⟨q, hq⟩ := List.isPrefixOf_iff_prefix.1 h
  exact ⟨q, hq.symm, by rw [← hq, List.drop_left' rfl]⟩
theorem pre_app {p q : List UInt8} : Lib.hasPrefix (p ++ q) p = true ∧ Lib.trimPrefix (p ++ q) p = q := by
  have h : Lib.hasPrefix (p ++ q) p = true := List.isPrefixOf_iff_prefix.2 ⟨q, rfl⟩
  refine ⟨h, ?_⟩
  unfold Lib.trimPrefix
  rw [if_pos h, List.drop_left' rfl]
theorem v_fin : ∀ d : _root_.Fin 16, Lib.Hx.v (Lib.Hx.digit d.val) = d.val := by decide +kernel
theorem hex_at {S : List Str} {L : List (List UInt8)} {m : Nat} (h : L = hexL S ++ [[]]) (hm : L.length = m + 1) : S.length = m ∧ ∀ j x, j < m → L[j]? = some x → ∃ s, S[j]? = some s ∧ x = Lib.Hx.encode (bt s) := by
  have hl : S.length = m := by
    rw [h, List.length_append, hexL, List.length_map] at hm
    simpa using hm
  refine ⟨hl, fun j x hj hx => ?_⟩
  have hh : (hexL S).length = S.length := by unfold hexL; rw [List.length_map]
  rw [h, List.getElem?_append_left (by omega)] at hx
  unfold hexL at hx
  rw [List.getElem?_map] at hx
  cases hs : S[j]? with
  | none => rw [hs] at hx; cases hx
  | some s => rw [hs] at hx; cases hx; exact ⟨s, rfl, rfl⟩
theorem dec_enc : ∀ l : List UInt8, Lib.Hx.decode (Lib.Hx.encode l) = (l, .ok)
  | [] => by rw [show Lib.Hx.encode [] = [] from rfl, Lib.Hx.decode_nil]
  | b :: r => by
    have hb : b.toNat < 256 := b.toNat_lt
    have h1 := v_fin ⟨b.toNat / 16, by omega⟩
    have h2 := v_fin ⟨b.toNat % 16, by omega⟩
    simp only at h1 h2
    rw [show Lib.Hx.encode (b :: r) = Lib.Hx.digit (b.toNat / 16) :: Lib.Hx.digit (b.toNat % 16) :: Lib.Hx.encode r from rfl, Lib.Hx.decode_two, h1, h2, if_neg (by omega), if_neg (by omega), dec_enc r]
    have : b.toNat / 16 * 16 + b.toNat % 16 = b.toNat := by omega
    rw [this]
    simp
theorem decL_hex {S : List Str} : (hexL S).map (fun x => stB (Lib.Hx.decode x).1) = S := by
  unfold hexL
  rw [List.map_map]
  conv => rhs; rw [← List.map_id S]
  apply List.map_congr_left
  intro x _
  show stB (Lib.Hx.decode (Lib.Hx.encode (bt x))).1 = x
  rw [dec_enc, stB_bt]
def E19 : Env := { T := T0, kp := look [(0, [0, 1]), (1, [0, 1, 4]), (2, [0, 1, 4, 6]), (3, [0, 1, 4, 6, 7, 8]), (4, [4]), (5, [0, 1, 4, 6, 7]), (6, [0, 1, 4, 6, 9, 10]), (7, [4]), (8, [0, 1, 4, 6, 9]), (9, [0, 1, 4, 6, 11]), (10, [0, 1, 4, 11, 56, 57, 58]), (11, [0, 1, 4, 11, 56, 57, 58]), (12, [0, 1, 4, 11, 13, 56, 57, 58]), (13, [0, 1, 4, 11, 14, 15, 56, 57, 58]), (14, [4]), (15, [0, 1, 4, 11, 14, 56, 57, 58]), (16, [0, 1, 4, 11, 56, 57, 58]), (17, [0, 1, 4, 11]), (18, [4]), (19, [4, 11])] }
attribute [local push_cast] E19
set_option maxRecDepth 20000 in
set_option maxHeartbeats 1000000 in
theorem implReadList (t : Str) (w : Int) (ht : t.size ≤ 10000000) : Does Tryz.prog 19 [.sc (.string t), .sc (.int .i64 w)] (.tu [.ag (lstC true (readL t w).1), .sc (.bool (readL t w).2)], []) := by
  refine does_of (E := E19) (rs := [.cell 4 27, .tmp 5]) (lent := []) tOk rfl Tryz.func19 rfl (by decide) rfl rfl (Nat.le_of_ble_eq_true rfl) (Nat.le_of_ble_eq_true rfl) ?_
  obtain ⟨M, hM⟩ : ∃ M, M = readL t w := ⟨_, rfl⟩
  rw [← hM]
  obtain ⟨K, hK⟩ : ∃ K, K = cutL 10 (bt t) := ⟨_, rfl⟩
  have bad : (∀ l, okLs l w = true → stB (formB l) = t → K = (sizB ++ Lib.decDigits l.sz.toNat) :: (hexL l.S ++ [[]]) → False) → M = ((⟨0, []⟩ : Lst), false) := fun h => by
    rw [hM]
    exact read_no fun l h1 h2 => h l h1 h2 (by rw [hK, ← h2, bt_stB, cut_form])
  have hKn := cutF_len 10 (bt t) [] []
  have hKs := cutF_sz 10 (bt t) [] [] t.size (by simp) (by rw [bt_len]; simp)
  have hKe := cutF_ne 10 (bt t) [] []
  rw [show cutF 10 [] [] (bt t) = cutL 10 (bt t) from rfl, ← hK] at hKn hKs hKe
  rw [bt_len, List.length_nil] at hKn
  have hsp := splitNl t ht
  rw [← hK] at hsp
  (simp -dsimp (disch := first | omega | (simp only [List.length_cons, List.length_nil, List.length_map, List.length_append, List.length_take, List.length_drop, List.length_replicate, List.length_set, mkG_len] <;> omega) | fail) only [push_cast, if_pos, decide_eq_true, decide_eq_false, simprocAttr, -Nat.reduceSubDiff]) <;> (repeat (refine (aw_draw (by kernel_rfl)).2 ?_; simp -dsimp (disch := first | omega | (simp only [List.length_cons, List.length_nil, List.length_map, List.length_append, List.length_take, List.length_drop, List.length_replicate, List.length_set, mkG_len] <;> omega) | fail) only [push_cast, if_pos, decide_eq_true, decide_eq_false, simprocAttr, -Nat.reduceSubDiff]))
  refine callC hsp ?_
  obtain ⟨a, L, hc⟩ : ∃ a L, K = a :: L := by
    cases K with
    | nil => exact (hKe rfl).elim
    | cons a L => exact ⟨a, L, rfl⟩
  rw [hc] at bad hKn hKs ⊢
  have has := hKs a (List.mem_cons_self ..)
  (simp -dsimp (disch := first | omega | (simp only [List.length_cons, List.length_nil, List.length_map, List.length_append, List.length_take, List.length_drop, List.length_replicate, List.length_set, mkG_len] <;> omega) | fail) only [push_cast, if_pos, decide_eq_true, decide_eq_false, simprocAttr, -Nat.reduceSubDiff]) <;> (repeat (refine (aw_draw (by kernel_rfl)).2 ?_; simp -dsimp (disch := first | omega | (simp only [List.length_cons, List.length_nil, List.length_map, List.length_append, List.length_take, List.length_drop, List.length_replicate, List.length_set, mkG_len] <;> omega) | fail) only [push_cast, if_pos, decide_eq_true, decide_eq_false, simprocAttr, -Nat.reduceSubDiff]))
  refine callC (cutPrefix (stB a) ⟨#[115, 105, 122, 101, 32]⟩) ?_
  rw [bt_stB, show bt ⟨#[115, 105, 122, 101, 32]⟩ = sizB from rfl]
  cases hp : Lib.hasPrefix a sizB with
  | false =>
    have hM := bad fun l _ _ h => by
      injection h with h1 h2
      rw [h1, pre_app.1] at hp; cases hp
    subst hM
    (simp -dsimp (disch := first | omega | (simp only [List.length_cons, List.length_nil, List.length_map, List.length_append, List.length_take, List.length_drop, List.length_replicate, List.length_set, mkG_len] <;> omega) | fail) only [push_cast, if_pos, decide_eq_true, decide_eq_false, simprocAttr, -Nat.reduceSubDiff]) <;> (repeat (refine (aw_draw (by kernel_rfl)).2 ?_; simp -dsimp (disch := first | omega | (simp only [List.length_cons, List.length_nil, List.length_map, List.length_append, List.length_take, List.length_drop, List.length_replicate, List.length_set, mkG_len] <;> omega) | fail) only [push_cast, if_pos, decide_eq_true, decide_eq_false, simprocAttr, -Nat.reduceSubDiff]))
  | true =>
  obtain ⟨q, hq, hq2⟩ := pre_of hp
  rw [hq2]
  have hql : a.length = 5 + q.length := by rw [hq, List.length_append]; rfl
  -- the last line
  obtain ⟨b, hb⟩ : ∃ b, (a :: L)[L.length]? = some b := ex_get (by simp)
  have hbm : (([AV.sc (Value.string (stB a))] :: List.map strR (List.map stB L)) : List Row)[L.length]? = some [AV.sc (Value.string (stB b))] := by
    show (((a :: L).map stB).map strR)[L.length]? = _
    rw [List.getElem?_map, List.getElem?_map, hb]; rfl
  rw [List.length_cons] at hKn
  have hLn : L.length ≤ 10000000 := by omega
  have e0 : wr .i64 ((L.length : Int) + 1 - 1) = (L.length : Int) := by rw [show (L.length : Int) + 1 - 1 = L.length by omega]; exact wr_id (by omega) (by omega)
  by_cases hb0 : stB b = ⟨#[]⟩
  rotate_left
  · have hM := bad fun l _ _ h => by
      rw [h] at hb
      injection h with h1 h2
      rw [h2, List.length_append, List.length_cons, List.length_nil, List.getElem?_cons_succ, List.getElem?_append_right (by omega)] at hb
      simp at hb
      exact hb0 (by rw [← hb]; rfl)
    subst hM
    (simp -dsimp (disch := first | omega | (simp only [hbm, e0, hb0, wr_id, List.length_cons, List.length_nil, List.length_map, List.length_append, List.length_take, List.length_drop, List.length_replicate, List.length_set, mkG_len] <;> omega) | fail) only [push_cast, if_pos, decide_eq_true, decide_eq_false, hbm, e0, hb0, wr_id, simprocAttr, -Nat.reduceSubDiff]) <;> (repeat (refine (aw_draw (by kernel_rfl)).2 ?_; simp -dsimp (disch := first | omega | (simp only [hbm, e0, hb0, wr_id, List.length_cons, List.length_nil, List.length_map, List.length_append, List.length_take, List.length_drop, List.length_replicate, List.length_set, mkG_len] <;> omega) | fail) only [push_cast, if_pos, decide_eq_true, decide_eq_false, hbm, e0, hb0, wr_id, simprocAttr, -Nat.reduceSubDiff]))
  by_cases h4 : 4 < q.length
  · have hM := bad fun l hl _ h => by
      obtain ⟨_, _, s0, s3, _, _⟩ := okLs_up hl
      injection h with h1 h2
      have h3 := dec_len4 (n := l.sz.toNat) (by omega)
      rw [h1] at hql
      rw [List.length_append, show sizB.length = 5 from rfl] at hql
      omega
    subst hM
    (simp -dsimp (disch := first | omega | (simp only [hbm, e0, hb0, wr_id, stB_size, h4, List.length_cons, List.length_nil, List.length_map, List.length_append, List.length_take, List.length_drop, List.length_replicate, List.length_set, mkG_len] <;> omega) | fail) only [push_cast, if_pos, decide_eq_true, decide_eq_false, hbm, e0, hb0, wr_id, stB_size, h4, simprocAttr, -Nat.reduceSubDiff]) <;> (repeat (refine (aw_draw (by kernel_rfl)).2 ?_; simp -dsimp (disch := first | omega | (simp only [hbm, e0, hb0, wr_id, stB_size, h4, List.length_cons, List.length_nil, List.length_map, List.length_append, List.length_take, List.length_drop, List.length_replicate, List.length_set, mkG_len] <;> omega) | fail) only [push_cast, if_pos, decide_eq_true, decide_eq_false, hbm, e0, hb0, wr_id, stB_size, h4, simprocAttr, -Nat.reduceSubDiff]))
  (simp -dsimp (disch := first | omega | (simp only [hbm, e0, hb0, wr_id, stB_size, h4, List.length_cons, List.length_nil, List.length_map, List.length_append, List.length_take, List.length_drop, List.length_replicate, List.length_set, mkG_len] <;> omega) | fail) only [push_cast, if_pos, decide_eq_true, decide_eq_false, hbm, e0, hb0, wr_id, stB_size, h4, simprocAttr, -Nat.reduceSubDiff]) <;> (repeat (refine (aw_draw (by kernel_rfl)).2 ?_; simp -dsimp (disch := first | omega | (simp only [hbm, e0, hb0, wr_id, stB_size, h4, List.length_cons, List.length_nil, List.length_map, List.length_append, List.length_take, List.length_drop, List.length_replicate, List.length_set, mkG_len] <;> omega) | fail) only [push_cast, if_pos, decide_eq_true, decide_eq_false, hbm, e0, hb0, wr_id, stB_size, h4, simprocAttr, -Nat.reduceSubDiff]))
  cases hA : Lib.atoi q with
  | none =>
    have hM := bad fun l _ _ h => by
      injection h with h1 h2
      rw [hq] at h1
      rw [List.append_cancel_left h1, atoi_dec] at hA
      cases hA
    subst hM
    refine callC (atoi_no (stB q) (by rw [stB_size]; omega) (by rw [bt_stB]; exact hA)) ?_
    (simp -dsimp (disch := first | omega | (simp only [isC, pNil, List.length_cons, List.length_nil, List.length_map, List.length_append, List.length_take, List.length_drop, List.length_replicate, List.length_set, mkG_len] <;> omega) | fail) only [push_cast, if_pos, decide_eq_true, decide_eq_false, isC, pNil, simprocAttr, -Nat.reduceSubDiff]) <;> (repeat (refine (aw_draw (by kernel_rfl)).2 ?_; simp -dsimp (disch := first | omega | (simp only [isC, pNil, List.length_cons, List.length_nil, List.length_map, List.length_append, List.length_take, List.length_drop, List.length_replicate, List.length_set, mkG_len] <;> omega) | fail) only [push_cast, if_pos, decide_eq_true, decide_eq_false, isC, pNil, simprocAttr, -Nat.reduceSubDiff]))
  | some n =>
  refine callC (atoi_yes (stB q) n (by rw [stB_size]; omega) (by rw [bt_stB]; exact hA)) ?_
  have hL0 : L.length ≠ 0 := fun h0 => by
    rw [h0] at hb
    have hb : a = b := Option.some.inj hb
    have := congrArg ByteArray.size hb0
    rw [stB_size, ← hb, hql] at this
    have e : (⟨#[]⟩ : ByteArray).size = 0 := rfl
    omega
  obtain ⟨m, hm⟩ : ∃ m, L.length = m + 1 := ⟨L.length - 1, by omega⟩
  have e1 : wr .i64 ((m : Int) + 1 + 1 - 1) = ((m + 1 : Nat) : Int) := by rw [show (m : Int) + 1 + 1 - 1 = ((m + 1 : Nat) : Int) by omega]; exact wr_id (by omega) (by omega)
  have e2 : ((m : Int) + 1 - 1).toNat = m := by omega
  rw [hm]
  (simp -dsimp (disch := first | omega | (simp only [hm, e1, e2, wr_id, isC, pNil, List.length_cons, List.length_nil, List.length_map, List.length_append, List.length_take, List.length_drop, List.length_replicate, List.length_set, mkG_len] <;> omega) | fail) only [push_cast, if_pos, decide_eq_true, decide_eq_false, hm, e1, e2, wr_id, isC, pNil, simprocAttr, -Nat.reduceSubDiff]) <;> (repeat (refine (aw_draw (by kernel_rfl)).2 ?_; simp -dsimp (disch := first | omega | (simp only [hm, e1, e2, wr_id, isC, pNil, List.length_cons, List.length_nil, List.length_map, List.length_append, List.length_take, List.length_drop, List.length_replicate, List.length_set, mkG_len] <;> omega) | fail) only [push_cast, if_pos, decide_eq_true, decide_eq_false, hm, e1, e2, wr_id, isC, pNil, simprocAttr, -Nat.reduceSubDiff]))
  have hLx : ∀ l : Lst, a :: L = (sizB ++ Lib.decDigits l.sz.toNat) :: (hexL l.S ++ [[]]) → L = hexL l.S ++ [[]] := fun l h => by injection h
  refine loop_ind (α := Nat) (fun j => j ≤ m ∧ j ≤ 376)
    (fun j => ⟨[(0, .sc (.string t)), (1, .sc (.int .i64 w)), (4, .pt 1 0 0), (11, .pt 3 0 0), (56, .ow 5 1 m), (57, .sc (.int .i64 m)), (58, .sc (.int .i64 j))],
      [(1, .bx [.sc (.int .i64 0), .ow 2 0 0]), (2, .ar 1 0 []), (3, .bx [.sc (.int .i64 n), .ow 4 0 ((L.take j).map fun x => stB (Lib.Hx.decode x).1).length]), (4, .ar 1 0 (((L.take j).map fun x => stB (Lib.Hx.decode x).1).map strR)), (5, .ar 1 0 ([.sc (.string (stB a))] :: (L.map stB).map strR))], 6⟩) (fun j => m - j) 0 ⟨Nat.zero_le _, Nat.zero_le _⟩ ?_ ?_
  · simp -dsimp (disch := first | omega | (simp only [List.take_zero, List.map_nil, List.length_cons, List.length_nil, List.length_map, List.length_append, List.length_take, List.length_drop, List.length_replicate, List.length_set, mkG_len] <;> omega) | fail) only [push_cast, if_pos, decide_eq_true, decide_eq_false, List.take_zero, List.map_nil, simprocAttr, -Nat.reduceSubDiff]
  rintro j ⟨hj, hj3⟩ ih
  have hjl : ((L.take j).map fun x => stB (Lib.Hx.decode x).1).length = j := by rw [List.length_map, List.length_take]; omega
  obtain ⟨D, hD⟩ : ∃ D, D = ((L.take j).map fun x => stB (Lib.Hx.decode x).1) := ⟨_, rfl⟩
  by_cases h : j < m
  · obtain ⟨x, hx⟩ := ex_get (show j < L.length by omega)
    have hxs := hKs x (List.mem_cons_of_mem _ (List.mem_of_getElem? hx))
    have hst : ((L.take (j + 1)).map fun x => stB (Lib.Hx.decode x).1) = D ++ [stB (Lib.Hx.decode x).1] := by rw [take_step hx, List.map_append, hD]; rfl
    have hx1 : (([AV.sc (Value.string (stB a))] :: List.map strR (List.map stB L)) : List Row)[1 + j]? = some [AV.sc (Value.string (stB x))] := by
      rw [Nat.add_comm, List.getElem?_cons_succ, List.getElem?_map, List.getElem?_map, hx]; rfl
    have hdl := Lib.Hx.decode_len x
    rw [← hD] at hjl ⊢
    (simp -dsimp (disch := first | omega | (simp only [hx, hx1, h, List.length_cons, List.length_nil, List.length_map, List.length_append, List.length_take, List.length_drop, List.length_replicate, List.length_set, mkG_len] <;> omega) | fail) only [push_cast, if_pos, decide_eq_true, decide_eq_false, hx, hx1, h, simprocAttr, -Nat.reduceSubDiff]) <;> (repeat (refine (aw_draw (by kernel_rfl)).2 ?_; simp -dsimp (disch := first | omega | (simp only [hx, hx1, h, List.length_cons, List.length_nil, List.length_map, List.length_append, List.length_take, List.length_drop, List.length_replicate, List.length_set, mkG_len] <;> omega) | fail) only [push_cast, if_pos, decide_eq_true, decide_eq_false, hx, hx1, h, simprocAttr, -Nat.reduceSubDiff]))
    refine callC (hexDec (stB x) (by rw [stB_size]; omega)) ?_
    rw [bt_stB]
    cases hd : (Lib.Hx.decode x).2 with
    | ok =>
      rw [show decA x = .sc .nilIface by unfold decA; rw [hd]]
      by_cases h7 : 375 < j
      · have hM := bad fun l hl _ h => by
          obtain ⟨h1, _⟩ := hex_at (hLx l h) hm
          obtain ⟨_, _, _, _, hn, _⟩ := okLs_up hl
          omega
        subst hM
        (simp -dsimp (disch := first | omega | (simp only [isC, pNil, hjl, h7, List.length_cons, List.length_nil, List.length_map, List.length_append, List.length_take, List.length_drop, List.length_replicate, List.length_set, mkG_len] <;> omega) | fail) only [push_cast, if_pos, decide_eq_true, decide_eq_false, isC, pNil, hjl, h7, simprocAttr, -Nat.reduceSubDiff]) <;> (repeat (refine (aw_draw (by kernel_rfl)).2 ?_; simp -dsimp (disch := first | omega | (simp only [isC, pNil, hjl, h7, List.length_cons, List.length_nil, List.length_map, List.length_append, List.length_take, List.length_drop, List.length_replicate, List.length_set, mkG_len] <;> omega) | fail) only [push_cast, if_pos, decide_eq_true, decide_eq_false, isC, pNil, hjl, h7, simprocAttr, -Nat.reduceSubDiff]))
      · (simp -dsimp (disch := first | omega | (simp only [isC, pNil, hjl, h7, wr_id, List.length_cons, List.length_nil, List.length_map, List.length_append, List.length_take, List.length_drop, List.length_replicate, List.length_set, mkG_len] <;> omega) | fail) only [push_cast, if_pos, decide_eq_true, decide_eq_false, isC, pNil, hjl, h7, wr_id, simprocAttr, -Nat.reduceSubDiff]) <;> (repeat (refine (aw_draw (by kernel_rfl)).2 ?_; simp -dsimp (disch := first | omega | (simp only [isC, pNil, hjl, h7, wr_id, List.length_cons, List.length_nil, List.length_map, List.length_append, List.length_take, List.length_drop, List.length_replicate, List.length_set, mkG_len] <;> omega) | fail) only [push_cast, if_pos, decide_eq_true, decide_eq_false, isC, pNil, hjl, h7, wr_id, simprocAttr, -Nat.reduceSubDiff]))
        refine ih (j + 1) _ (by omega) ⟨h, by omega⟩ ?_
        rw [hst]
        simp -dsimp (disch := first | omega | (simp only [wr_id, List.map_append, List.length_append, List.length_cons, List.length_nil, List.map_cons, List.map_nil, hjl, stB, List.length_cons, List.length_nil, List.length_map, List.length_append, List.length_take, List.length_drop, List.length_replicate, List.length_set, mkG_len] <;> omega) | fail) only [push_cast, if_pos, decide_eq_true, decide_eq_false, wr_id, List.map_append, List.length_append, List.length_cons, List.length_nil, List.map_cons, List.map_nil, hjl, stB, simprocAttr, -Nat.reduceSubDiff]
    | bad c =>
      have hM := bad fun l hl _ h3 => by
        obtain ⟨_, h2⟩ := hex_at (hLx l h3) hm
        obtain ⟨s, _, hs⟩ := h2 j x h hx
        rw [hs, dec_enc] at hd; cases hd
      subst hM
      rw [show decA x = .er by unfold decA; rw [hd]]
      (simp -dsimp (disch := first | omega | (simp only [isC, pNil, hjl, List.length_cons, List.length_nil, List.length_map, List.length_append, List.length_take, List.length_drop, List.length_replicate, List.length_set, mkG_len] <;> omega) | fail) only [push_cast, if_pos, decide_eq_true, decide_eq_false, isC, pNil, hjl, simprocAttr, -Nat.reduceSubDiff]) <;> (repeat (refine (aw_draw (by kernel_rfl)).2 ?_; simp -dsimp (disch := first | omega | (simp only [isC, pNil, hjl, List.length_cons, List.length_nil, List.length_map, List.length_append, List.length_take, List.length_drop, List.length_replicate, List.length_set, mkG_len] <;> omega) | fail) only [push_cast, if_pos, decide_eq_true, decide_eq_false, isC, pNil, hjl, simprocAttr, -Nat.reduceSubDiff]))
    | odd =>
      have hM := bad fun l hl _ h3 => by
        obtain ⟨_, h2⟩ := hex_at (hLx l h3) hm
        obtain ⟨s, _, hs⟩ := h2 j x h hx
        rw [hs, dec_enc] at hd; cases hd
      subst hM
      rw [show decA x = .er by unfold decA; rw [hd]]
      (simp -dsimp (disch := first | omega | (simp only [isC, pNil, hjl, List.length_cons, List.length_nil, List.length_map, List.length_append, List.length_take, List.length_drop, List.length_replicate, List.length_set, mkG_len] <;> omega) | fail) only [push_cast, if_pos, decide_eq_true, decide_eq_false, isC, pNil, hjl, simprocAttr, -Nat.reduceSubDiff]) <;> (repeat (refine (aw_draw (by kernel_rfl)).2 ?_; simp -dsimp (disch := first | omega | (simp only [isC, pNil, hjl, List.length_cons, List.length_nil, List.length_map, List.length_append, List.length_take, List.length_drop, List.length_replicate, List.length_set, mkG_len] <;> omega) | fail) only [push_cast, if_pos, decide_eq_true, decide_eq_false, isC, pNil, hjl, simprocAttr, -Nat.reduceSubDiff]))
  · have hj : j = m := by omega
    rw [← hD] at hjl ⊢
    (simp -dsimp (disch := first | omega | (simp only [h, List.length_cons, List.length_nil, List.length_map, List.length_append, List.length_take, List.length_drop, List.length_replicate, List.length_set, mkG_len] <;> omega) | fail) only [push_cast, if_pos, decide_eq_true, decide_eq_false, h, simprocAttr, -Nat.reduceSubDiff]) <;> (repeat (refine (aw_draw (by kernel_rfl)).2 ?_; simp -dsimp (disch := first | omega | (simp only [h, List.length_cons, List.length_nil, List.length_map, List.length_append, List.length_take, List.length_drop, List.length_replicate, List.length_set, mkG_len] <;> omega) | fail) only [push_cast, if_pos, decide_eq_true, decide_eq_false, h, simprocAttr, -Nat.reduceSubDiff]))
    refine callC (implFormList ⟨n, D⟩ w (by show D.length ≤ _; omega)) ?_
    by_cases e : formL ⟨n, D⟩ w = t
    · have h5 : 1 ≤ t.size := by
        have := hKs a (List.mem_cons_self ..)
        omega
      obtain ⟨o1, o2⟩ := formL_ok e h5
      have hM : M = (⟨n, D⟩, true) := by rw [hM]; exact read_of o1 o2
      subst hM
      (simp -dsimp (disch := first | omega | (simp only [e, hjl, List.length_cons, List.length_nil, List.length_map, List.length_append, List.length_take, List.length_drop, List.length_replicate, List.length_set, mkG_len] <;> omega) | fail) only [push_cast, if_pos, decide_eq_true, decide_eq_false, e, hjl, simprocAttr, -Nat.reduceSubDiff]) <;> (repeat (refine (aw_draw (by kernel_rfl)).2 ?_; simp -dsimp (disch := first | omega | (simp only [e, hjl, List.length_cons, List.length_nil, List.length_map, List.length_append, List.length_take, List.length_drop, List.length_replicate, List.length_set, mkG_len] <;> omega) | fail) only [push_cast, if_pos, decide_eq_true, decide_eq_false, e, hjl, simprocAttr, -Nat.reduceSubDiff]))
    · have hM := bad fun l hl hf h3 => by
        have h6 := hLx l h3
        have h7 : D = l.S := by
          obtain ⟨h8, _⟩ := hex_at h6 hm
          have hh : (hexL l.S).length = m := by unfold hexL; rw [List.length_map]; exact h8
          rw [hD, hj, h6, List.take_left' hh, decL_hex]
        have h9 : n = l.sz := by
          obtain ⟨_, _, s0, _, _, _⟩ := okLs_up hl
          injection h3 with h1 h2
          rw [hq] at h1
          rw [List.append_cancel_left h1, atoi_dec] at hA
          have := Option.some.inj hA
          omega
        apply e
        rw [h7, h9]
        unfold formL
        rw [if_pos hl]; exact hf
      subst hM
      (simp -dsimp (disch := first | omega | (simp only [e, hjl, List.length_cons, List.length_nil, List.length_map, List.length_append, List.length_take, List.length_drop, List.length_replicate, List.length_set, mkG_len] <;> omega) | fail) only [push_cast, if_pos, decide_eq_true, decide_eq_false, e, hjl, simprocAttr, -Nat.reduceSubDiff]) <;> (repeat (refine (aw_draw (by kernel_rfl)).2 ?_; simp -dsimp (disch := first | omega | (simp only [e, hjl, List.length_cons, List.length_nil, List.length_map, List.length_append, List.length_take, List.length_drop, List.length_replicate, List.length_set, mkG_len] <;> omega) | fail) only [push_cast, if_pos, decide_eq_true, decide_eq_false, e, hjl, simprocAttr, -Nat.reduceSubDiff]))
end Go.Proofs.YtgkncgiglmdnaaaGreatDoor.Mx

/- The laws' helpers run (By fam.py of this session.) -/
namespace Go.Proofs.YtgkncgiglmdnaaaGreatDoor.Mx
set_option linter.all false
open Go Go.RowKit Go.Proofs
set_option linter.unusedSimpArgs false
set_option linter.unusedVariables false
def E165 : Env := { T := T0, kp := look [(0, [0, 1]), (1, [2, 3]), (2, []), (3, [2, 3]), (4, []), (5, [])] }
attribute [local push_cast] E165
theorem eqItem (x y : Item) (hy : okItem y) : Does Tryz.prog 165 [.ag (itemC false x), .ag (itemC false y)] (.sc (.bool (decide (x = y))), []) := by
  refine does_of (E := E165) (rs := [.tmp 4]) (lent := []) tOk rfl Tryz.func165 rfl (by decide) rfl rfl (Nat.le_of_ble_eq_true rfl) (Nat.le_of_ble_eq_true rfl) ?_
  by_cases e0 : x.t = y.t
  rotate_left
  · have hn : x ≠ y := fun h => e0 (by rw [h])
    (simp -dsimp (disch := first | omega | (simp only [e0, hn, List.length_cons, List.length_nil, List.length_map, List.length_append, List.length_take, List.length_drop, List.length_replicate, List.length_set, mkG_len] <;> omega) | fail) only [push_cast, if_pos, decide_eq_true, decide_eq_false, e0, hn, simprocAttr, -Nat.reduceSubDiff]) <;> (repeat (refine (aw_draw (by kernel_rfl)).2 ?_; simp -dsimp (disch := first | omega | (simp only [e0, hn, List.length_cons, List.length_nil, List.length_map, List.length_append, List.length_take, List.length_drop, List.length_replicate, List.length_set, mkG_len] <;> omega) | fail) only [push_cast, if_pos, decide_eq_true, decide_eq_false, e0, hn, simprocAttr, -Nat.reduceSubDiff]))
  (simp -dsimp (disch := first | omega | (simp only [e0, List.length_cons, List.length_nil, List.length_map, List.length_append, List.length_take, List.length_drop, List.length_replicate, List.length_set, mkG_len] <;> omega) | fail) only [push_cast, if_pos, decide_eq_true, decide_eq_false, e0, simprocAttr, -Nat.reduceSubDiff]) <;> (repeat (refine (aw_draw (by kernel_rfl)).2 ?_; simp -dsimp (disch := first | omega | (simp only [e0, List.length_cons, List.length_nil, List.length_map, List.length_append, List.length_take, List.length_drop, List.length_replicate, List.length_set, mkG_len] <;> omega) | fail) only [push_cast, if_pos, decide_eq_true, decide_eq_false, e0, simprocAttr, -Nat.reduceSubDiff]))
  by_cases e1 : x.u = y.u
  rotate_left
  · have hn : x ≠ y := fun h => e1 (by rw [h])
    (simp -dsimp (disch := first | omega | (simp only [e1, hn, List.length_cons, List.length_nil, List.length_map, List.length_append, List.length_take, List.length_drop, List.length_replicate, List.length_set, mkG_len] <;> omega) | fail) only [push_cast, if_pos, decide_eq_true, decide_eq_false, e1, hn, simprocAttr, -Nat.reduceSubDiff]) <;> (repeat (refine (aw_draw (by kernel_rfl)).2 ?_; simp -dsimp (disch := first | omega | (simp only [e1, hn, List.length_cons, List.length_nil, List.length_map, List.length_append, List.length_take, List.length_drop, List.length_replicate, List.length_set, mkG_len] <;> omega) | fail) only [push_cast, if_pos, decide_eq_true, decide_eq_false, e1, hn, simprocAttr, -Nat.reduceSubDiff]))
  have hn : x = y := by cases x; cases y; simp_all
  (simp -dsimp (disch := first | omega | (simp only [e1, hn, List.length_cons, List.length_nil, List.length_map, List.length_append, List.length_take, List.length_drop, List.length_replicate, List.length_set, mkG_len] <;> omega) | fail) only [push_cast, if_pos, decide_eq_true, decide_eq_false, e1, hn, simprocAttr, -Nat.reduceSubDiff]) <;> (repeat (refine (aw_draw (by kernel_rfl)).2 ?_; simp -dsimp (disch := first | omega | (simp only [e1, hn, List.length_cons, List.length_nil, List.length_map, List.length_append, List.length_take, List.length_drop, List.length_replicate, List.length_set, mkG_len] <;> omega) | fail) only [push_cast, if_pos, decide_eq_true, decide_eq_false, e1, hn, simprocAttr, -Nat.reduceSubDiff]))
def E106 : Env := { T := T0, kp := look [(0, [0, 1]), (1, [0, 1]), (2, []), (3, [0, 1]), (4, [0, 1, 5]), (5, [0, 1, 5]), (6, [0, 1, 5]), (7, []), (8, [])], dp := look2 [(6, [[], [], [0, 1], [0, 1, 2], [], [], [4, 5], [4, 5, 6], [0, 1, 2, 3, 4, 5, 6, 7], [0, 1, 2, 3, 4, 5, 6, 7, 8]])] }
attribute [local push_cast] E106
theorem eqItemS (a b : List Item) (hb : okL okItem b) : Does Tryz.prog 106 [.sl false 2 (a.map (itemC false)), .sl false 2 (b.map (itemC false))] (.sc (.bool (decide (a = b))), []) := by
  refine does_of (E := E106) (rs := [.tmp 4]) (lent := []) tOk rfl Tryz.func106 rfl (by decide) rfl rfl (Nat.le_of_ble_eq_true rfl) (Nat.le_of_ble_eq_true rfl) ?_
  have hb1 := hb.1
  by_cases hl : a.length = b.length
  rotate_left
  · have : a ≠ b := fun h => hl (by rw [h])
    simp -dsimp (disch := first | omega | (simp only [this, List.length_cons, List.length_nil, List.length_map, List.length_append, List.length_take, List.length_drop, List.length_replicate, List.length_set, mkG_len] <;> omega) | fail) only [push_cast, if_pos, decide_eq_true, decide_eq_false, this, simprocAttr, -Nat.reduceSubDiff]
  simp -dsimp (disch := first | omega | (simp only [hl, List.length_cons, List.length_nil, List.length_map, List.length_append, List.length_take, List.length_drop, List.length_replicate, List.length_set, mkG_len] <;> omega) | fail) only [push_cast, if_pos, decide_eq_true, decide_eq_false, hl, simprocAttr, -Nat.reduceSubDiff]
  refine loop_ind (α := Nat) (fun i => i ≤ b.length ∧ a.take i = b.take i) (fun i => ⟨[(0, .sl false 2 (a.map (itemC false))), (1, .sl false 2 (b.map (itemC false))), (5, .sc (.int .i64 i))], [], 1⟩) (fun i => b.length - i) 0 ⟨Nat.zero_le _, rfl⟩ ?_ ?_
  · simp -dsimp (disch := first | omega | (simp only [List.length_cons, List.length_nil, List.length_map, List.length_append, List.length_take, List.length_drop, List.length_replicate, List.length_set, mkG_len] <;> omega) | fail) only [push_cast, if_pos, decide_eq_true, decide_eq_false, simprocAttr, -Nat.reduceSubDiff]
  intro i hi ih
  by_cases h : i < b.length
  · obtain ⟨x, hx⟩ := ex_get (hl ▸ h : i < a.length)
    obtain ⟨y, hy⟩ := ex_get h
    (simp -dsimp (disch := first | omega | (simp only [hx, hy, List.length_cons, List.length_nil, List.length_map, List.length_append, List.length_take, List.length_drop, List.length_replicate, List.length_set, mkG_len] <;> omega) | fail) only [push_cast, if_pos, decide_eq_true, decide_eq_false, hx, hy, simprocAttr, -Nat.reduceSubDiff]) <;> (repeat (refine (aw_draw (by kernel_rfl)).2 ?_; simp -dsimp (disch := first | omega | (simp only [hx, hy, List.length_cons, List.length_nil, List.length_map, List.length_append, List.length_take, List.length_drop, List.length_replicate, List.length_set, mkG_len] <;> omega) | fail) only [push_cast, if_pos, decide_eq_true, decide_eq_false, hx, hy, simprocAttr, -Nat.reduceSubDiff]))
    refine callC (eqItem x y (hb.2 y (List.mem_of_getElem? hy))) ?_
    by_cases e : x = y
    · simp -dsimp (disch := first | omega | (simp only [e, List.length_cons, List.length_nil, List.length_map, List.length_append, List.length_take, List.length_drop, List.length_replicate, List.length_set, mkG_len] <;> omega) | fail) only [push_cast, if_pos, decide_eq_true, decide_eq_false, e, simprocAttr, -Nat.reduceSubDiff]
      refine ih (i + 1) _ (by omega) ⟨h, by rw [take_step hx, take_step hy, hi.2, e]⟩ ?_
      simp -dsimp (disch := first | omega | (simp only [wr_id, List.length_cons, List.length_nil, List.length_map, List.length_append, List.length_take, List.length_drop, List.length_replicate, List.length_set, mkG_len] <;> omega) | fail) only [push_cast, if_pos, decide_eq_true, decide_eq_false, wr_id, simprocAttr, -Nat.reduceSubDiff]
    · have : a ≠ b := fun h' => e (by rw [h', hy] at hx; cases hx; rfl)
      simp -dsimp (disch := first | omega | (simp only [e, this, List.length_cons, List.length_nil, List.length_map, List.length_append, List.length_take, List.length_drop, List.length_replicate, List.length_set, mkG_len] <;> omega) | fail) only [push_cast, if_pos, decide_eq_true, decide_eq_false, e, this, simprocAttr, -Nat.reduceSubDiff]
  · have : a = b := by
      have := hi.2
      rwa [List.take_of_length_le (by omega), List.take_of_length_le (by omega)] at this
    simp -dsimp (disch := first | omega | (simp only [this, List.length_cons, List.length_nil, List.length_map, List.length_append, List.length_take, List.length_drop, List.length_replicate, List.length_set, mkG_len] <;> omega) | fail) only [push_cast, if_pos, decide_eq_true, decide_eq_false, this, simprocAttr, -Nat.reduceSubDiff]
def E162 : Env := { T := T0, kp := look [(0, [0, 1]), (1, [1, 2]), (2, [1]), (3, []), (4, [1])] }
attribute [local push_cast] E162
theorem szItem_run (a : Item) (x : Int) (x0 : 0 ≤ x) (x1 : x ≤ 1048576) (hb : bdItem a) : Does Tryz.prog 162 [.ag (itemC false a), .sc (.int .i64 x)] (.sc (.int .i64 (szItem a x)), []) := by
  refine does_of (E := E162) (rs := [.tmp 4]) (lent := []) tOk rfl Tryz.func162 rfl (by decide) rfl rfl (Nat.le_of_ble_eq_true rfl) (Nat.le_of_ble_eq_true rfl) ?_
  unfold bdItem at hb
  have b0 : a.t.size ≤ 9223372036854775807 := hb
  by_cases n0 : x - a.t.size < 0
  · have hv : szItem a x = -1 := by unfold szItem; rw [if_pos n0]
    (simp -dsimp (disch := first | omega | (simp only [wr_id, hv, List.length_cons, List.length_nil, List.length_map, List.length_append, List.length_take, List.length_drop, List.length_replicate, List.length_set, mkG_len] <;> omega) | fail) only [push_cast, if_pos, decide_eq_true, decide_eq_false, wr_id, hv, simprocAttr, -Nat.reduceSubDiff]) <;> (repeat (refine (aw_draw (by kernel_rfl)).2 ?_; simp -dsimp (disch := first | omega | (simp only [wr_id, hv, List.length_cons, List.length_nil, List.length_map, List.length_append, List.length_take, List.length_drop, List.length_replicate, List.length_set, mkG_len] <;> omega) | fail) only [push_cast, if_pos, decide_eq_true, decide_eq_false, wr_id, hv, simprocAttr, -Nat.reduceSubDiff]))
  have hv : szItem a x = x - a.t.size := by unfold szItem; rw [if_neg n0]
  (simp -dsimp (disch := first | omega | (simp only [wr_id, hv, List.length_cons, List.length_nil, List.length_map, List.length_append, List.length_take, List.length_drop, List.length_replicate, List.length_set, mkG_len] <;> omega) | fail) only [push_cast, if_pos, decide_eq_true, decide_eq_false, wr_id, hv, simprocAttr, -Nat.reduceSubDiff]) <;> (repeat (refine (aw_draw (by kernel_rfl)).2 ?_; simp -dsimp (disch := first | omega | (simp only [wr_id, hv, List.length_cons, List.length_nil, List.length_map, List.length_append, List.length_take, List.length_drop, List.length_replicate, List.length_set, mkG_len] <;> omega) | fail) only [push_cast, if_pos, decide_eq_true, decide_eq_false, wr_id, hv, simprocAttr, -Nat.reduceSubDiff]))
def E98 : Env := { T := T0, kp := look [(0, [0, 1]), (1, [0, 1]), (2, [0, 1]), (3, []), (4, [0, 1]), (5, [0, 1, 5]), (6, [0, 1, 5]), (7, [0, 1, 5]), (8, [0, 1, 5]), (9, []), (10, [1])] }
attribute [local push_cast] E98
theorem szItemS (l : List Item) (x : Int) (x0 : 0 ≤ x) (x1 : x ≤ 1048576) (hb : bdL bdItem l) : Does Tryz.prog 98 [.sl false 2 (l.map (itemC false)), .sc (.int .i64 x)] (.sc (.int .i64 (szL szItem l x)), []) := by
  refine does_of (E := E98) (rs := [.tmp 4]) (lent := []) tOk rfl Tryz.func98 rfl (by decide) rfl rfl (Nat.le_of_ble_eq_true rfl) (Nat.le_of_ble_eq_true rfl) ?_
  have hb1 := hb.1
  by_cases h0 : x - l.length < 0
  · simp -dsimp (disch := first | omega | (simp only [wr_id, szL, h0, List.length_cons, List.length_nil, List.length_map, List.length_append, List.length_take, List.length_drop, List.length_replicate, List.length_set, mkG_len] <;> omega) | fail) only [push_cast, if_pos, decide_eq_true, decide_eq_false, wr_id, szL, h0, simprocAttr, -Nat.reduceSubDiff]
  rw [show szL szItem l x = szG szItem l (x - l.length) by unfold szL; rw [if_neg h0]]
  generalize hM : szG szItem l (x - l.length) = M
  simp -dsimp (disch := first | omega | (simp only [wr_id, List.length_cons, List.length_nil, List.length_map, List.length_append, List.length_take, List.length_drop, List.length_replicate, List.length_set, mkG_len] <;> omega) | fail) only [push_cast, if_pos, decide_eq_true, decide_eq_false, wr_id, simprocAttr, -Nat.reduceSubDiff]
  refine loop_ind (α := Nat × Int) (fun p => p.1 ≤ l.length ∧ 0 ≤ p.2 ∧ p.2 ≤ x ∧ szG szItem (l.drop p.1) p.2 = M) (fun p => ⟨[(0, .sl false 2 (l.map (itemC false))), (1, .sc (.int .i64 p.2)), (5, .sc (.int .i64 p.1))], [], 1⟩) (fun p => l.length - p.1) (0, x - l.length) ⟨Nat.zero_le _, by omega, by omega, hM⟩ ?_ ?_
  · simp -dsimp (disch := first | omega | (simp only [List.length_cons, List.length_nil, List.length_map, List.length_append, List.length_take, List.length_drop, List.length_replicate, List.length_set, mkG_len] <;> omega) | fail) only [push_cast, if_pos, decide_eq_true, decide_eq_false, simprocAttr, -Nat.reduceSubDiff]
  rintro ⟨i, y⟩ ⟨hi, hy0, hy1, hy⟩ ih
  dsimp only at hi hy0 hy1 hy
  by_cases h : i < l.length
  · obtain ⟨s, hx⟩ := ex_get h
    rw [drop_step hx, szG] at hy
    (simp -dsimp (disch := first | omega | (simp only [hx, List.length_cons, List.length_nil, List.length_map, List.length_append, List.length_take, List.length_drop, List.length_replicate, List.length_set, mkG_len] <;> omega) | fail) only [push_cast, if_pos, decide_eq_true, decide_eq_false, hx, simprocAttr, -Nat.reduceSubDiff]) <;> (repeat (refine (aw_draw (by kernel_rfl)).2 ?_; simp -dsimp (disch := first | omega | (simp only [hx, List.length_cons, List.length_nil, List.length_map, List.length_append, List.length_take, List.length_drop, List.length_replicate, List.length_set, mkG_len] <;> omega) | fail) only [push_cast, if_pos, decide_eq_true, decide_eq_false, hx, simprocAttr, -Nat.reduceSubDiff]))
    refine callC (szItem_run s y hy0 (by omega) (hb.2 s (List.mem_of_getElem? hx))) ?_
    by_cases h2 : szItem s y < 0
    · rw [if_pos h2] at hy
      simp -dsimp (disch := first | omega | (simp only [← hy, List.length_cons, List.length_nil, List.length_map, List.length_append, List.length_take, List.length_drop, List.length_replicate, List.length_set, mkG_len] <;> omega) | fail) only [push_cast, if_pos, decide_eq_true, decide_eq_false, ← hy, simprocAttr, -Nat.reduceSubDiff]
    · rw [if_neg h2] at hy
      have := szItem_ok s y (by omega)
      simp -dsimp (disch := first | omega | (simp only [List.length_cons, List.length_nil, List.length_map, List.length_append, List.length_take, List.length_drop, List.length_replicate, List.length_set, mkG_len] <;> omega) | fail) only [push_cast, if_pos, decide_eq_true, decide_eq_false, simprocAttr, -Nat.reduceSubDiff]
      refine ih (i + 1, szItem s y) _ (by simp; omega) ⟨h, by simp only []; omega, by simp only []; omega, hy⟩ ?_
      simp -dsimp (disch := first | omega | (simp only [wr_id, List.length_cons, List.length_nil, List.length_map, List.length_append, List.length_take, List.length_drop, List.length_replicate, List.length_set, mkG_len] <;> omega) | fail) only [push_cast, if_pos, decide_eq_true, decide_eq_false, wr_id, simprocAttr, -Nat.reduceSubDiff]
  · rw [List.drop_eq_nil_of_le (by omega), szG] at hy
    simp -dsimp (disch := first | omega | (simp only [hy, List.length_cons, List.length_nil, List.length_map, List.length_append, List.length_take, List.length_drop, List.length_replicate, List.length_set, mkG_len] <;> omega) | fail) only [push_cast, if_pos, decide_eq_true, decide_eq_false, hy, simprocAttr, -Nat.reduceSubDiff]
def E164 : Env := { T := T0, kp := look [(0, [0]), (1, [1, 2]), (2, [1, 2, 3]), (3, [1, 2, 3]), (4, [2, 3])] }
attribute [local push_cast] E164
theorem toItem_run (x : Item) (hx : okItem x) : Does Tryz.prog 164 [.ag (itemC false x)] (.ag (itemC true x), []) := by
  refine does_of (E := E164) (rs := [.cell 2 125]) (lent := []) tOk rfl Tryz.func164 rfl (by decide) rfl rfl (Nat.le_of_ble_eq_true rfl) (Nat.le_of_ble_eq_true rfl) ?_
  (simp -dsimp (disch := first | omega | (simp only [List.length_cons, List.length_nil, List.length_map, List.length_append, List.length_take, List.length_drop, List.length_replicate, List.length_set, mkG_len] <;> omega) | fail) only [push_cast, if_pos, decide_eq_true, decide_eq_false, simprocAttr, -Nat.reduceSubDiff]) <;> (repeat (refine (aw_draw (by kernel_rfl)).2 ?_; simp -dsimp (disch := first | omega | (simp only [List.length_cons, List.length_nil, List.length_map, List.length_append, List.length_take, List.length_drop, List.length_replicate, List.length_set, mkG_len] <;> omega) | fail) only [push_cast, if_pos, decide_eq_true, decide_eq_false, simprocAttr, -Nat.reduceSubDiff]))
def E102 : Env := { T := T0, kp := look [(0, [0]), (1, [0]), (2, [0, 3]), (3, [0, 3, 4]), (4, [0, 3, 4]), (5, [0, 3, 4]), (6, [3])] }
attribute [local push_cast] E102
theorem toItemS (l : List Item) (hl : okL okItem l) : Does Tryz.prog 102 [.sl false 2 (l.map (itemC false))] (.sl true 2 (l.map (itemC true)), []) := by
  refine does_of (E := E102) (rs := [.tmp 2]) (lent := []) tOk rfl Tryz.func102 rfl (by decide) rfl rfl (Nat.le_of_ble_eq_true rfl) (Nat.le_of_ble_eq_true rfl) ?_
  have hl1 := hl.1
  obtain ⟨Z, hZ⟩ : ∃ Z : Item, Z = ⟨em, 0⟩ := ⟨_, rfl⟩
  have hz : ∀ k, List.replicate k (itemC true Z) = (List.replicate k Z).map (itemC true) := fun k => by simp
  simp -dsimp (disch := first | omega | (simp only [List.length_cons, List.length_nil, List.length_map, List.length_append, List.length_take, List.length_drop, List.length_replicate, List.length_set, mkG_len] <;> omega) | fail) only [push_cast, if_pos, decide_eq_true, decide_eq_false, simprocAttr, -Nat.reduceSubDiff]
  refine loop_ind (α := Nat) (fun i => i ≤ l.length) (fun i => ⟨[(0, .sl false 2 (l.map (itemC false))), (3, .ow 1 0 l.length), (4, .sc (.int .i64 i))], [(1, .ar 2 0 ((l.take i ++ (List.replicate l.length Z).drop i).map (itemC true)))], 2⟩) (fun i => l.length - i) 0 (Nat.zero_le _) ?_ ?_
  · simp -dsimp (disch := first | omega | (simp only [List.take_zero, List.drop_zero, List.map_replicate, hZ, em, List.length_cons, List.length_nil, List.length_map, List.length_append, List.length_take, List.length_drop, List.length_replicate, List.length_set, mkG_len] <;> omega) | fail) only [push_cast, if_pos, decide_eq_true, decide_eq_false, List.take_zero, List.drop_zero, List.map_replicate, hZ, em, simprocAttr, -Nat.reduceSubDiff]
  intro i hi ih
  by_cases h : i < l.length
  · obtain ⟨s, hx⟩ := ex_get h
    have hw := get_over (a := l) (b := List.replicate l.length Z) (by simp) hi
    rw [List.getElem?_replicate, if_pos h] at hw
    have ee := congrArg (List.map (itemC true)) (set_over (b := List.replicate l.length Z) (by simp) hx)
    rw [List.map_set] at ee
    (simp -dsimp (disch := first | omega | (simp only [hx, List.length_cons, List.length_nil, List.length_map, List.length_append, List.length_take, List.length_drop, List.length_replicate, List.length_set, mkG_len] <;> omega) | fail) only [push_cast, if_pos, decide_eq_true, decide_eq_false, hx, simprocAttr, -Nat.reduceSubDiff]) <;> (repeat (refine (aw_draw (by kernel_rfl)).2 ?_; simp -dsimp (disch := first | omega | (simp only [hx, List.length_cons, List.length_nil, List.length_map, List.length_append, List.length_take, List.length_drop, List.length_replicate, List.length_set, mkG_len] <;> omega) | fail) only [push_cast, if_pos, decide_eq_true, decide_eq_false, hx, simprocAttr, -Nat.reduceSubDiff]))
    refine callC (toItem_run s (hl.2 s (List.mem_of_getElem? hx))) ?_
    (simp -dsimp (disch := first | omega | (simp only [hw, List.length_cons, List.length_nil, List.length_map, List.length_append, List.length_take, List.length_drop, List.length_replicate, List.length_set, mkG_len] <;> omega) | fail) only [push_cast, if_pos, decide_eq_true, decide_eq_false, hw, simprocAttr, -Nat.reduceSubDiff]) <;> (repeat (refine (aw_draw (by kernel_rfl)).2 ?_; simp -dsimp (disch := first | omega | (simp only [hw, List.length_cons, List.length_nil, List.length_map, List.length_append, List.length_take, List.length_drop, List.length_replicate, List.length_set, mkG_len] <;> omega) | fail) only [push_cast, if_pos, decide_eq_true, decide_eq_false, hw, simprocAttr, -Nat.reduceSubDiff]))
    refine ih (i + 1) _ (by omega) h ?_
    unfold itemC at ee ⊢
    simp -dsimp (disch := first | omega | (simp only [wr_id, ee, List.length_cons, List.length_nil, List.length_map, List.length_append, List.length_take, List.length_drop, List.length_replicate, List.length_set, mkG_len] <;> omega) | fail) only [push_cast, if_pos, decide_eq_true, decide_eq_false, wr_id, ee, simprocAttr, -Nat.reduceSubDiff]
  · have hn : i = l.length := by omega
    subst hn
    simp -dsimp (disch := first | omega | (simp only [List.take_length, List.drop_eq_nil_of_le, List.length_cons, List.length_nil, List.length_map, List.length_append, List.length_take, List.length_drop, List.length_replicate, List.length_set, mkG_len] <;> omega) | fail) only [push_cast, if_pos, decide_eq_true, decide_eq_false, List.take_length, List.drop_eq_nil_of_le, simprocAttr, -Nat.reduceSubDiff]
end Go.Proofs.YtgkncgiglmdnaaaGreatDoor.Mx

/- A machine over values for Go functions, proved sound, and functions run on it: texts F1, F30, F31, F32. -/
import Derived.Test.YtgkncgiglmdnaaaGreatDoorListsXah
/- Sums. -/
namespace Go.Proofs.YtgkncgiglmdnaaaGreatDoor.Mx
set_option linter.all false
open Go Go.RowKit Go.Proofs
def E145 : Env := { T := T0, kp := look [(0, [0]), (1, [0])] }
attribute [local push_cast] E145
theorem widthOk (n : Int) : Does Tryz.prog 145 [.sc (.int .i64 n)] (.sc (.bool (inB n 1 8)), []) := by
  refine does_of (E := E145) (rs := [.tmp 2]) (lent := []) tOk rfl Tryz.func145 rfl (by decide) rfl rfl (Nat.le_of_ble_eq_true rfl) (Nat.le_of_ble_eq_true rfl) ?_
  by_cases h : 1 ≤ n <;> by_cases h2 : n ≤ 8 <;> first | (exfalso; omega) | (simp -dsimp (disch := first | omega | (simp only [h, h2, inB, List.length_cons, List.length_nil, List.length_map, List.length_append, List.length_take, List.length_drop, List.length_replicate, List.length_set, mkG_len] <;> omega) | fail) only [push_cast, if_pos, decide_eq_true, decide_eq_false, h, h2, inB, simprocAttr, -Nat.reduceSubDiff])
def E114 : Env := { T := T0, kp := look [(0, [0, 1, 2]), (1, [0, 1, 2])] }
attribute [local push_cast] E114
theorem l1In (a b c : Int) : Does Tryz.prog 114 [.sc (.int .i64 a), .sc (.int .i64 b), .sc (.int .i64 c)] (.sc (.bool (inB a b c)), []) := by
  refine does_of (E := E114) (rs := [.tmp 6]) (lent := []) tOk rfl Tryz.func114 rfl (by decide) rfl rfl (Nat.le_of_ble_eq_true rfl) (Nat.le_of_ble_eq_true rfl) ?_
  by_cases h : b ≤ a <;> by_cases h2 : a ≤ c <;> simp -dsimp (disch := first | omega | (simp only [h, h2, inB, List.length_cons, List.length_nil, List.length_map, List.length_append, List.length_take, List.length_drop, List.length_replicate, List.length_set, mkG_len] <;> omega) | fail) only [push_cast, if_pos, decide_eq_true, decide_eq_false, h, h2, inB, simprocAttr, -Nat.reduceSubDiff]
def E77 : Env := { T := T0, kp := look [(0, [0]), (1, [0])] }
attribute [local push_cast] E77
theorem l1Width (n : Int) : Does Tryz.prog 77 [.sc (.int .i64 n)] (.sc (.bool (inB n 1 8)), []) := by
  refine does_of (E := E77) (rs := [.tmp 2]) (lent := []) tOk rfl Tryz.func77 rfl (by decide) rfl rfl (Nat.le_of_ble_eq_true rfl) (Nat.le_of_ble_eq_true rfl) ?_
  simp -dsimp (disch := first | omega | (simp only [List.length_cons, List.length_nil, List.length_map, List.length_append, List.length_take, List.length_drop, List.length_replicate, List.length_set, mkG_len] <;> omega) | fail) only [push_cast, if_pos, decide_eq_true, decide_eq_false, simprocAttr, -Nat.reduceSubDiff]
  refine callC (l1In ..) ?_
  simp -dsimp (disch := first | omega | (simp only [List.length_cons, List.length_nil, List.length_map, List.length_append, List.length_take, List.length_drop, List.length_replicate, List.length_set, mkG_len] <;> omega) | fail) only [push_cast, if_pos, decide_eq_true, decide_eq_false, simprocAttr, -Nat.reduceSubDiff]
def E90 : Env := { T := T0, kp := look [(0, [0]), (1, [0]), (2, [0, 3]), (3, [0, 3, 4]), (4, [0, 3, 4]), (5, [0, 3, 4]), (6, [3])] }
attribute [local push_cast] E90
theorem sum64 (t : Str) (ht : t.size < 4611686018427387904) : Does Tryz.prog 90 [.sc (.string t)] (.sc (.int .u64 (hash64 (bt t))), []) := by
  refine does_of (E := E90) (rs := [.tmp 2]) (lent := []) tOk rfl Tryz.func90 rfl (by decide) rfl rfl (Nat.le_of_ble_eq_true rfl) (Nat.le_of_ble_eq_true rfl) ?_
  simp -dsimp (disch := first | omega | (simp only [List.length_cons, List.length_nil, List.length_map, List.length_append, List.length_take, List.length_drop, List.length_replicate, List.length_set, mkG_len] <;> omega) | fail) only [push_cast, if_pos, decide_eq_true, decide_eq_false, simprocAttr, -Nat.reduceSubDiff]
  refine loop_ind (α := Nat) (fun i => i ≤ t.size) (fun i => ⟨[(0, .sc (.string t)), (3, .sc (.int .u64 (((bt t).take i).foldl step64 14695981039346656037))), (4, .sc (.int .i64 i))], [], 1⟩) (fun i => t.size - i) 0 (Nat.zero_le _) ?_ ?_
  · simp -dsimp (disch := first | omega | (simp only [List.foldl_nil, List.length_cons, List.length_nil, List.length_map, List.length_append, List.length_take, List.length_drop, List.length_replicate, List.length_set, mkG_len] <;> omega) | fail) only [push_cast, if_pos, decide_eq_true, decide_eq_false, List.foldl_nil, simprocAttr, -Nat.reduceSubDiff]
  intro i hi ih
  by_cases h : i < t.size
  · obtain ⟨u, hu⟩ := ex_get (by rw [bt_len]; exact h : i < (bt t).length)
    simp -dsimp (disch := first | omega | (simp only [h, hu, List.length_cons, List.length_nil, List.length_map, List.length_append, List.length_take, List.length_drop, List.length_replicate, List.length_set, mkG_len] <;> omega) | fail) only [push_cast, if_pos, decide_eq_true, decide_eq_false, h, hu, simprocAttr, -Nat.reduceSubDiff]
    refine ih (i + 1) _ (by omega) h ?_
    simp -dsimp (disch := first | omega | (simp only [wr_id, take_step hu, List.foldl_append, List.foldl_cons, List.foldl_nil, step64, List.length_cons, List.length_nil, List.length_map, List.length_append, List.length_take, List.length_drop, List.length_replicate, List.length_set, mkG_len] <;> omega) | fail) only [push_cast, if_pos, decide_eq_true, decide_eq_false, wr_id, take_step hu, List.foldl_append, List.foldl_cons, List.foldl_nil, step64, simprocAttr, -Nat.reduceSubDiff]
  · have hl : (bt t).take i = bt t := List.take_of_length_le (by rw [bt_len]; omega)
    simp -dsimp (disch := first | omega | (simp only [h, hl, hash64, List.length_cons, List.length_nil, List.length_map, List.length_append, List.length_take, List.length_drop, List.length_replicate, List.length_set, mkG_len] <;> omega) | fail) only [push_cast, if_pos, decide_eq_true, decide_eq_false, h, hl, hash64, simprocAttr, -Nat.reduceSubDiff]
def E151 : Env := { T := T0, kp := look [(0, [0]), (1, [0]), (2, [0, 3]), (3, [0, 3, 4]), (4, [0, 3, 4]), (5, [0, 3, 4]), (6, [3])] }
attribute [local push_cast] E151
theorem l1Sum64 (t : Str) (ht : t.size < 4611686018427387904) : Does Tryz.prog 151 [.sc (.string t)] (.sc (.int .u64 (hash64 (bt t))), []) := by
  refine does_of (E := E151) (rs := [.tmp 2]) (lent := []) tOk rfl Tryz.func151 rfl (by decide) rfl rfl (Nat.le_of_ble_eq_true rfl) (Nat.le_of_ble_eq_true rfl) ?_
  simp -dsimp (disch := first | omega | (simp only [List.length_cons, List.length_nil, List.length_map, List.length_append, List.length_take, List.length_drop, List.length_replicate, List.length_set, mkG_len] <;> omega) | fail) only [push_cast, if_pos, decide_eq_true, decide_eq_false, simprocAttr, -Nat.reduceSubDiff]
  refine loop_ind (α := Nat) (fun i => i ≤ t.size) (fun i => ⟨[(0, .sc (.string t)), (3, .sc (.int .u64 (((bt t).take i).foldl step64 14695981039346656037))), (4, .sc (.int .i64 i))], [], 1⟩) (fun i => t.size - i) 0 (Nat.zero_le _) ?_ ?_
  · simp -dsimp (disch := first | omega | (simp only [List.foldl_nil, List.length_cons, List.length_nil, List.length_map, List.length_append, List.length_take, List.length_drop, List.length_replicate, List.length_set, mkG_len] <;> omega) | fail) only [push_cast, if_pos, decide_eq_true, decide_eq_false, List.foldl_nil, simprocAttr, -Nat.reduceSubDiff]
  intro i hi ih
  by_cases h : i < t.size
  · obtain ⟨u, hu⟩ := ex_get (by rw [bt_len]; exact h : i < (bt t).length)
    simp -dsimp (disch := first | omega | (simp only [h, hu, List.length_cons, List.length_nil, List.length_map, List.length_append, List.length_take, List.length_drop, List.length_replicate, List.length_set, mkG_len] <;> omega) | fail) only [push_cast, if_pos, decide_eq_true, decide_eq_false, h, hu, simprocAttr, -Nat.reduceSubDiff]
    refine ih (i + 1) _ (by omega) h ?_
    simp -dsimp (disch := first | omega | (simp only [wr_id, take_step hu, List.foldl_append, List.foldl_cons, List.foldl_nil, step64, List.length_cons, List.length_nil, List.length_map, List.length_append, List.length_take, List.length_drop, List.length_replicate, List.length_set, mkG_len] <;> omega) | fail) only [push_cast, if_pos, decide_eq_true, decide_eq_false, wr_id, take_step hu, List.foldl_append, List.foldl_cons, List.foldl_nil, step64, simprocAttr, -Nat.reduceSubDiff]
  · have hl : (bt t).take i = bt t := List.take_of_length_le (by rw [bt_len]; omega)
    simp -dsimp (disch := first | omega | (simp only [h, hl, hash64, List.length_cons, List.length_nil, List.length_map, List.length_append, List.length_take, List.length_drop, List.length_replicate, List.length_set, mkG_len] <;> omega) | fail) only [push_cast, if_pos, decide_eq_true, decide_eq_false, h, hl, hash64, simprocAttr, -Nat.reduceSubDiff]
def E150 : Env := { T := T0, kp := look [(0, [0, 1]), (1, [0, 1]), (2, [0, 1, 5]), (3, [0, 1, 5, 6]), (4, [0, 1, 5, 6]), (5, [0, 1, 5, 6]), (6, [0, 1, 5, 6]), (7, [5])] }
attribute [local push_cast] E150
theorem l1Bytes (h w : Int) (h0 : 0 ≤ h) (h1 : h < 18446744073709551616) (w0 : 0 ≤ w) (w8 : w ≤ 8) : Does Tryz.prog 150 [.sc (.int .u64 h), .sc (.int .i64 w)] (.sc (.string (strN (be w.toNat h))), []) := by
  refine does_of (E := E150) (rs := [.tmp 4]) (lent := []) tOk rfl Tryz.func150 rfl (by decide) rfl rfl (Nat.le_of_ble_eq_true rfl) (Nat.le_of_ble_eq_true rfl) ?_
  simp -dsimp (disch := first | omega | (simp only [List.length_cons, List.length_nil, List.length_map, List.length_append, List.length_take, List.length_drop, List.length_replicate, List.length_set, mkG_len] <;> omega) | fail) only [push_cast, if_pos, decide_eq_true, decide_eq_false, simprocAttr, -Nat.reduceSubDiff]
  refine loop_ind (α := Nat) (fun i => i ≤ w.toNat) (fun i => ⟨[(0, .sc (.int .u64 (h / 256 ^ i))), (1, .sc (.int .i64 w)), (5, .sc (.string (strN (be i h)))), (6, .sc (.int .i64 i))], [], 1⟩) (fun i => w.toNat - i) 0 (Nat.zero_le _) ?_ ?_
  · simp -dsimp (disch := first | omega | (simp only [be, strN, Int.pow_zero, Int.ediv_one, List.length_cons, List.length_nil, List.length_map, List.length_append, List.length_take, List.length_drop, List.length_replicate, List.length_set, mkG_len] <;> omega) | fail) only [push_cast, if_pos, decide_eq_true, decide_eq_false, be, strN, Int.pow_zero, Int.ediv_one, simprocAttr, -Nat.reduceSubDiff]
    trace_state
  intro i hi ih
  by_cases h2 : (i : Int) < w
  · have e1 : 0 ≤ h / 256 ^ i := Int.ediv_nonneg h0 (Int.pow_nonneg (by decide))
    have e2 : h / 256 ^ i < 18446744073709551616 := Int.lt_of_le_of_lt (Int.ediv_le_self _ h0) h1
    have e3 : wr .u8 ((h / 256 ^ i).tmod 256) = h / 256 ^ i % 256 := by rw [wr_u8, Int.tmod_eq_emod_of_nonneg e1]; omega
    have e4 : wr .u64 ((h / 256 ^ i).tdiv 256) = h / 256 ^ (i + 1) := by
      rw [wr_u64, Int.tdiv_eq_ediv_of_nonneg e1, Int.pow_succ, ← Int.ediv_ediv_of_nonneg (Int.pow_nonneg (by decide))]
      have := Int.ediv_nonneg e1 (by decide : (0 : Int) ≤ 256)
      have := Int.ediv_le_self 256 e1
      omega
    simp -dsimp (disch := first | omega | (simp only [h2, e3, e4, strN_one, strN_size, be_len, strN_app, List.length_cons, List.length_nil, List.length_map, List.length_append, List.length_take, List.length_drop, List.length_replicate, List.length_set, mkG_len] <;> omega) | fail) only [push_cast, if_pos, decide_eq_true, decide_eq_false, h2, e3, e4, strN_one, strN_size, be_len, strN_app, simprocAttr, -Nat.reduceSubDiff]
    refine ih (i + 1) _ (by omega) (by omega) ?_
    simp -dsimp (disch := first | omega | (simp only [wr_id, be, List.length_cons, List.length_nil, List.length_map, List.length_append, List.length_take, List.length_drop, List.length_replicate, List.length_set, mkG_len] <;> omega) | fail) only [push_cast, if_pos, decide_eq_true, decide_eq_false, wr_id, be, simprocAttr, -Nat.reduceSubDiff]
  · have : w.toNat = i := by omega
    simp -dsimp (disch := first | omega | (simp only [h2, this, List.length_cons, List.length_nil, List.length_map, List.length_append, List.length_take, List.length_drop, List.length_replicate, List.length_set, mkG_len] <;> omega) | fail) only [push_cast, if_pos, decide_eq_true, decide_eq_false, h2, this, simprocAttr, -Nat.reduceSubDiff]
def E79 : Env := { T := T0, kp := look [(0, [0, 1]), (1, [0, 1]), (2, []), (3, [0, 1])] }
attribute [local push_cast] E79
theorem specSum (t : Str) (w : Int) (ht : t.size < 4611686018427387904) : Does Tryz.prog 79 [.sc (.string t), .sc (.int .i64 w)] (.sc (.string (sumS t w)), []) := by
  refine does_of (E := E79) (rs := [.tmp 4]) (lent := []) tOk rfl Tryz.func79 rfl (by decide) rfl rfl (Nat.le_of_ble_eq_true rfl) (Nat.le_of_ble_eq_true rfl) ?_
  simp -dsimp (disch := first | omega | (simp only [List.length_cons, List.length_nil, List.length_map, List.length_append, List.length_take, List.length_drop, List.length_replicate, List.length_set, mkG_len] <;> omega) | fail) only [push_cast, if_pos, decide_eq_true, decide_eq_false, simprocAttr, -Nat.reduceSubDiff]
  refine callC (l1Width ..) ?_
  by_cases h : 1 ≤ w ∧ w ≤ 8
  · simp -dsimp (disch := first | omega | (simp only [inB, h, sumS, and_self, List.length_cons, List.length_nil, List.length_map, List.length_append, List.length_take, List.length_drop, List.length_replicate, List.length_set, mkG_len] <;> omega) | fail) only [push_cast, if_pos, decide_eq_true, decide_eq_false, inB, h, sumS, and_self, simprocAttr, -Nat.reduceSubDiff]
    refine callC (l1Sum64 _ ht) ?_
    simp -dsimp (disch := first | omega | (simp only [List.length_cons, List.length_nil, List.length_map, List.length_append, List.length_take, List.length_drop, List.length_replicate, List.length_set, mkG_len] <;> omega) | fail) only [push_cast, if_pos, decide_eq_true, decide_eq_false, simprocAttr, -Nat.reduceSubDiff]
    have := hash64_r (bt t)
    refine callC (l1Bytes _ _ this.1 this.2 (by omega) h.2) ?_
    simp -dsimp (disch := first | omega | (simp only [sumS, List.length_cons, List.length_nil, List.length_map, List.length_append, List.length_take, List.length_drop, List.length_replicate, List.length_set, mkG_len] <;> omega) | fail) only [push_cast, if_pos, decide_eq_true, decide_eq_false, sumS, simprocAttr, -Nat.reduceSubDiff]
  · simp -dsimp (disch := first | omega | (simp only [inB, h, sumS, em, List.length_cons, List.length_nil, List.length_map, List.length_append, List.length_take, List.length_drop, List.length_replicate, List.length_set, mkG_len] <;> omega) | fail) only [push_cast, if_pos, decide_eq_true, decide_eq_false, inB, h, sumS, em, simprocAttr, -Nat.reduceSubDiff]
def E87 : Env := { T := T0, kp := look [(0, [0, 1]), (1, [0, 1]), (2, []), (3, [0, 1]), (4, [1, 5]), (5, [1, 5, 6]), (6, [1, 5, 6, 16, 17]), (7, [1, 5, 6, 16, 17]), (8, [1, 5, 6, 7, 16, 17]), (9, [1, 5, 6, 16, 17]), (10, [6])] }
attribute [local push_cast] E87
theorem implSum (t : Str) (w : Int) (ht : t.size < 4611686018427387904) : Does Tryz.prog 87 [.sc (.string t), .sc (.int .i64 w)] (.sc (.string (sumS t w)), []) := by
  by_cases h : 1 ≤ w ∧ w ≤ 8
  rotate_left
  · refine does_of (E := E87) (rs := [.tmp 4]) (lent := []) tOk rfl Tryz.func87 rfl (by decide) rfl rfl (Nat.le_of_ble_eq_true rfl) (Nat.le_of_ble_eq_true rfl) ?_
    simp -dsimp (disch := first | omega | (simp only [List.length_cons, List.length_nil, List.length_map, List.length_append, List.length_take, List.length_drop, List.length_replicate, List.length_set, mkG_len] <;> omega) | fail) only [push_cast, if_pos, decide_eq_true, decide_eq_false, simprocAttr, -Nat.reduceSubDiff]
    refine callC (widthOk ..) ?_
    simp -dsimp (disch := first | omega | (simp only [inB, h, sumS, em, List.length_cons, List.length_nil, List.length_map, List.length_append, List.length_take, List.length_drop, List.length_replicate, List.length_set, mkG_len] <;> omega) | fail) only [push_cast, if_pos, decide_eq_true, decide_eq_false, inB, h, sumS, em, simprocAttr, -Nat.reduceSubDiff]
  obtain ⟨n, rfl⟩ : ∃ n : Nat, w = n := ⟨w.toNat, by omega⟩
  rw [show sumS t n = strN (be n (hash64 (bt t))) by unfold sumS; rw [if_pos h]; rfl]
  refine does_of (E := E87) (rs := [.tmp 4]) (lent := []) tOk rfl Tryz.func87 rfl (by decide) rfl rfl (Nat.le_of_ble_eq_true rfl) (Nat.le_of_ble_eq_true rfl) ?_
  simp -dsimp (disch := first | omega | (simp only [List.length_cons, List.length_nil, List.length_map, List.length_append, List.length_take, List.length_drop, List.length_replicate, List.length_set, mkG_len] <;> omega) | fail) only [push_cast, if_pos, decide_eq_true, decide_eq_false, simprocAttr, -Nat.reduceSubDiff]
  refine callC (widthOk ..) ?_
  simp -dsimp (disch := first | omega | (simp only [inB, h, and_self, List.length_cons, List.length_nil, List.length_map, List.length_append, List.length_take, List.length_drop, List.length_replicate, List.length_set, mkG_len] <;> omega) | fail) only [push_cast, if_pos, decide_eq_true, decide_eq_false, inB, h, and_self, simprocAttr, -Nat.reduceSubDiff]
  refine callC (sum64 _ ht) ?_
  have hr := hash64_r (bt t)
  generalize hash64 (bt t) = H at hr ⊢
  simp -dsimp (disch := first | omega | (simp only [List.length_cons, List.length_nil, List.length_map, List.length_append, List.length_take, List.length_drop, List.length_replicate, List.length_set, mkG_len] <;> omega) | fail) only [push_cast, if_pos, decide_eq_true, decide_eq_false, simprocAttr, -Nat.reduceSubDiff]
  refine loop_ind (α := Nat) (fun i => i ≤ n) (fun i => ⟨[(1, .sc (.int .i64 n)), (5, .sc (.int .u64 H)), (6, .ow 1 0 n), (16, .sc (.int .i64 n)), (17, .sc (.int .i64 i))], [(1, .ar 1 0 (((be n H).take i ++ List.replicate (n - i) 0).map numR))], 2⟩) (fun i => n - i) 0 (Nat.zero_le _) ?_ ?_
  · simp -dsimp (disch := first | omega | (simp only [List.map_replicate, numR, Nat.sub_zero, List.length_cons, List.length_nil, List.length_map, List.length_append, List.length_take, List.length_drop, List.length_replicate, List.length_set, mkG_len] <;> omega) | fail) only [push_cast, if_pos, decide_eq_true, decide_eq_false, List.map_replicate, numR, Nat.sub_zero, simprocAttr, -Nat.reduceSubDiff]
  intro i hi ih
  by_cases h2 : i < n
  · obtain ⟨x, hx⟩ := ex_get (show i < ((be n H).take i ++ List.replicate (n - i) 0).length by simp [be_len]; omega)
    have e : wr .u8 (H.fdiv (2 ^ (min (8 * ((n : Int) - 1 - i)).toNat IntKind.u64.bits))) = H / 256 ^ (n - 1 - i) % 256 := by
      rw [show (8 * ((n : Int) - 1 - i)).toNat = 8 * (n - 1 - i) by omega,
        show IntKind.u64.bits = 64 from rfl, Nat.min_eq_left (by omega), Int.pow_mul, wr_u8, Int.fdiv_eq_ediv_of_nonneg _ (Int.pow_nonneg (by decide))]
      rfl
    simp -dsimp (disch := first | omega | (simp only [wr_id, e, hx, numR, List.length_cons, List.length_nil, List.length_map, List.length_append, List.length_take, List.length_drop, List.length_replicate, List.length_set, mkG_len] <;> omega) | fail) only [push_cast, if_pos, decide_eq_true, decide_eq_false, wr_id, e, hx, numR, simprocAttr, -Nat.reduceSubDiff]
    refine ih (i + 1) _ (by omega) h2 ?_
    have ee : (((be n H).take i ++ List.replicate (n - i) 0).map numR).set i [.sc (.int .u8 (H / 256 ^ (n - 1 - i) % 256))] = ((be n H).take (i + 1) ++ List.replicate (n - (i + 1)) 0).map numR := by
      rw [show ([.sc (.int .u8 (H / 256 ^ (n - 1 - i) % 256))] : Row) = numR (H / 256 ^ (n - 1 - i) % 256) from rfl, ← List.map_set, take_step (be_get n H i h2), List.set_append_right _ _ (by simp [be_len]; omega), show n - i = n - (i + 1) + 1 by omega, List.replicate_succ]
      simp [be_len, Nat.min_eq_left hi]
    simp -dsimp (disch := first | omega | (simp only [wr_id, ee, List.length_cons, List.length_nil, List.length_map, List.length_append, List.length_take, List.length_drop, List.length_replicate, List.length_set, mkG_len] <;> omega) | fail) only [push_cast, if_pos, decide_eq_true, decide_eq_false, wr_id, ee, simprocAttr, -Nat.reduceSubDiff]
  · have hn : i = n := by omega
    subst hn
    have e : (be i H).take i ++ List.replicate (i - i) 0 = be i H := by rw [List.take_of_length_le (by rw [be_len]; omega)]; simp
    simp -dsimp (disch := first | omega | (simp only [e, be_len, bytesOf_num, strN, List.length_cons, List.length_nil, List.length_map, List.length_append, List.length_take, List.length_drop, List.length_replicate, List.length_set, mkG_len] <;> omega) | fail) only [push_cast, if_pos, decide_eq_true, decide_eq_false, e, be_len, bytesOf_num, strN, simprocAttr, -Nat.reduceSubDiff]
end Go.Proofs.YtgkncgiglmdnaaaGreatDoor.Mx

/- Lists' forms. -/
namespace Go.Proofs.YtgkncgiglmdnaaaGreatDoor.Mx
set_option linter.all false
open Go Go.RowKit Go.Proofs
set_option linter.unusedSimpArgs false
theorem inB_and (a b c : Int) : inB a b c = (decide (b ≤ a) && decide (a ≤ c)) := by
  unfold inB; by_cases h : b ≤ a <;> by_cases h2 : a ≤ c <;> simp [h, h2]
def E73 : Env := { T := T0, kp := look [(0, [0, 1]), (1, [1, 2]), (2, []), (3, [1, 2]), (4, [1, 27, 28, 29]), (5, [1, 27, 28, 29]), (6, [1, 6, 27, 28, 29]), (7, []), (8, [1, 27, 28, 29]), (9, [])] }
attribute [local push_cast] E73
set_option maxRecDepth 20000 in
set_option maxHeartbeats 1000000 in
theorem listOk (l : Lst) (w : Int) (hl : l.S.length ≤ 2097152) : Does Tryz.prog 73 [.ag (lstC false l), .sc (.int .i64 w)] (.sc (.bool (okLs l w)), []) := by
  refine does_of (E := E73) (rs := [.tmp 4]) (lent := []) tOk rfl Tryz.func73 rfl (by decide) rfl rfl (Nat.le_of_ble_eq_true rfl) (Nat.le_of_ble_eq_true rfl) ?_
  obtain ⟨M, hM⟩ : ∃ M, M = okLs l w := ⟨_, rfl⟩
  rw [← hM]
  unfold okLs at hM
  (simp -dsimp (disch := first | omega | (simp only [List.length_cons, List.length_nil, List.length_map, List.length_append, List.length_take, List.length_drop, List.length_replicate, List.length_set, mkG_len] <;> omega) | fail) only [push_cast, if_pos, decide_eq_true, decide_eq_false, simprocAttr, -Nat.reduceSubDiff]) <;> (repeat (refine (aw_draw (by kernel_rfl)).2 ?_; simp -dsimp (disch := first | omega | (simp only [List.length_cons, List.length_nil, List.length_map, List.length_append, List.length_take, List.length_drop, List.length_replicate, List.length_set, mkG_len] <;> omega) | fail) only [push_cast, if_pos, decide_eq_true, decide_eq_false, simprocAttr, -Nat.reduceSubDiff]))
  refine callC (widthOk ..) ?_
  by_cases c1 : inB w 1 8 = true
  rotate_left
  · have hv : M = false := by rw [hM]; simp [c1]
    (simp -dsimp (disch := first | omega | (simp only [c1, hv, List.length_cons, List.length_nil, List.length_map, List.length_append, List.length_take, List.length_drop, List.length_replicate, List.length_set, mkG_len] <;> omega) | fail) only [push_cast, if_pos, decide_eq_true, decide_eq_false, c1, hv, simprocAttr, -Nat.reduceSubDiff]) <;> (repeat (refine (aw_draw (by kernel_rfl)).2 ?_; simp -dsimp (disch := first | omega | (simp only [c1, hv, List.length_cons, List.length_nil, List.length_map, List.length_append, List.length_take, List.length_drop, List.length_replicate, List.length_set, mkG_len] <;> omega) | fail) only [push_cast, if_pos, decide_eq_true, decide_eq_false, c1, hv, simprocAttr, -Nat.reduceSubDiff]))
  by_cases c2 : 0 ≤ l.sz
  rotate_left
  · have hv : M = false := by rw [hM]; simp [inB_and l.sz, c2]
    (simp -dsimp (disch := first | omega | (simp only [c1, hv, List.length_cons, List.length_nil, List.length_map, List.length_append, List.length_take, List.length_drop, List.length_replicate, List.length_set, mkG_len] <;> omega) | fail) only [push_cast, if_pos, decide_eq_true, decide_eq_false, c1, hv, simprocAttr, -Nat.reduceSubDiff]) <;> (repeat (refine (aw_draw (by kernel_rfl)).2 ?_; simp -dsimp (disch := first | omega | (simp only [c1, hv, List.length_cons, List.length_nil, List.length_map, List.length_append, List.length_take, List.length_drop, List.length_replicate, List.length_set, mkG_len] <;> omega) | fail) only [push_cast, if_pos, decide_eq_true, decide_eq_false, c1, hv, simprocAttr, -Nat.reduceSubDiff]))
  by_cases c3 : l.sz ≤ 3000
  rotate_left
  · have hv : M = false := by rw [hM]; simp [inB_and l.sz, c3]
    (simp -dsimp (disch := first | omega | (simp only [c1, hv, List.length_cons, List.length_nil, List.length_map, List.length_append, List.length_take, List.length_drop, List.length_replicate, List.length_set, mkG_len] <;> omega) | fail) only [push_cast, if_pos, decide_eq_true, decide_eq_false, c1, hv, simprocAttr, -Nat.reduceSubDiff]) <;> (repeat (refine (aw_draw (by kernel_rfl)).2 ?_; simp -dsimp (disch := first | omega | (simp only [c1, hv, List.length_cons, List.length_nil, List.length_map, List.length_append, List.length_take, List.length_drop, List.length_replicate, List.length_set, mkG_len] <;> omega) | fail) only [push_cast, if_pos, decide_eq_true, decide_eq_false, c1, hv, simprocAttr, -Nat.reduceSubDiff]))
  by_cases c4 : l.S.length ≤ 375
  rotate_left
  · have hv : M = false := by rw [hM]; simp [c4]
    (simp -dsimp (disch := first | omega | (simp only [c1, hv, List.length_cons, List.length_nil, List.length_map, List.length_append, List.length_take, List.length_drop, List.length_replicate, List.length_set, mkG_len] <;> omega) | fail) only [push_cast, if_pos, decide_eq_true, decide_eq_false, c1, hv, simprocAttr, -Nat.reduceSubDiff]) <;> (repeat (refine (aw_draw (by kernel_rfl)).2 ?_; simp -dsimp (disch := first | omega | (simp only [c1, hv, List.length_cons, List.length_nil, List.length_map, List.length_append, List.length_take, List.length_drop, List.length_replicate, List.length_set, mkG_len] <;> omega) | fail) only [push_cast, if_pos, decide_eq_true, decide_eq_false, c1, hv, simprocAttr, -Nat.reduceSubDiff]))
  have hM : (l.S.all fun s => decide ((s.size : Int) = w)) = M := by rw [hM]; simp [inB_and l.sz, c1, c2, c3, c4]
  (simp -dsimp (disch := first | omega | (simp only [c1, List.length_cons, List.length_nil, List.length_map, List.length_append, List.length_take, List.length_drop, List.length_replicate, List.length_set, mkG_len] <;> omega) | fail) only [push_cast, if_pos, decide_eq_true, decide_eq_false, c1, simprocAttr, -Nat.reduceSubDiff]) <;> (repeat (refine (aw_draw (by kernel_rfl)).2 ?_; simp -dsimp (disch := first | omega | (simp only [c1, List.length_cons, List.length_nil, List.length_map, List.length_append, List.length_take, List.length_drop, List.length_replicate, List.length_set, mkG_len] <;> omega) | fail) only [push_cast, if_pos, decide_eq_true, decide_eq_false, c1, simprocAttr, -Nat.reduceSubDiff]))
  refine loop_ind (α := Nat) (fun i => i ≤ l.S.length ∧ ((l.S.drop i).all fun s => decide ((s.size : Int) = w)) = M)
    (fun i => ⟨[(1, .sc (.int .i64 w)), (27, .sl false 1 (l.S.map strR)), (28, .sc (.int .i64 l.S.length)), (29, .sc (.int .i64 i))], [], 1⟩) (fun i => l.S.length - i) 0 ⟨Nat.zero_le _, hM⟩ ?_ ?_
  · simp -dsimp (disch := first | omega | (simp only [List.length_cons, List.length_nil, List.length_map, List.length_append, List.length_take, List.length_drop, List.length_replicate, List.length_set, mkG_len] <;> omega) | fail) only [push_cast, if_pos, decide_eq_true, decide_eq_false, simprocAttr, -Nat.reduceSubDiff]
  rintro i ⟨hi, hy⟩ ih
  by_cases h : i < l.S.length
  · obtain ⟨x, hx⟩ := ex_get h
    rw [drop_step hx, List.all_cons] at hy
    by_cases e : (x.size : Int) = w
    · (simp -dsimp (disch := first | omega | (simp only [hx, e, List.length_cons, List.length_nil, List.length_map, List.length_append, List.length_take, List.length_drop, List.length_replicate, List.length_set, mkG_len] <;> omega) | fail) only [push_cast, if_pos, decide_eq_true, decide_eq_false, hx, e, simprocAttr, -Nat.reduceSubDiff]) <;> (repeat (refine (aw_draw (by kernel_rfl)).2 ?_; simp -dsimp (disch := first | omega | (simp only [hx, e, List.length_cons, List.length_nil, List.length_map, List.length_append, List.length_take, List.length_drop, List.length_replicate, List.length_set, mkG_len] <;> omega) | fail) only [push_cast, if_pos, decide_eq_true, decide_eq_false, hx, e, simprocAttr, -Nat.reduceSubDiff]))
      refine ih (i + 1) _ (by omega) ⟨h, by rw [← hy]; simp [e]⟩ ?_
      simp -dsimp (disch := first | omega | (simp only [wr_id, List.length_cons, List.length_nil, List.length_map, List.length_append, List.length_take, List.length_drop, List.length_replicate, List.length_set, mkG_len] <;> omega) | fail) only [push_cast, if_pos, decide_eq_true, decide_eq_false, wr_id, simprocAttr, -Nat.reduceSubDiff]
    · have hy : false = M := by rw [← hy]; simp [e]
      (simp -dsimp (disch := first | omega | (simp only [hx, e, ← hy, List.length_cons, List.length_nil, List.length_map, List.length_append, List.length_take, List.length_drop, List.length_replicate, List.length_set, mkG_len] <;> omega) | fail) only [push_cast, if_pos, decide_eq_true, decide_eq_false, hx, e, ← hy, simprocAttr, -Nat.reduceSubDiff]) <;> (repeat (refine (aw_draw (by kernel_rfl)).2 ?_; simp -dsimp (disch := first | omega | (simp only [hx, e, ← hy, List.length_cons, List.length_nil, List.length_map, List.length_append, List.length_take, List.length_drop, List.length_replicate, List.length_set, mkG_len] <;> omega) | fail) only [push_cast, if_pos, decide_eq_true, decide_eq_false, hx, e, ← hy, simprocAttr, -Nat.reduceSubDiff]))
  · rw [List.drop_eq_nil_of_le (by omega)] at hy
    have hy : true = M := by rw [← hy]; rfl
    (simp -dsimp (disch := first | omega | (simp only [← hy, List.length_cons, List.length_nil, List.length_map, List.length_append, List.length_take, List.length_drop, List.length_replicate, List.length_set, mkG_len] <;> omega) | fail) only [push_cast, if_pos, decide_eq_true, decide_eq_false, ← hy, simprocAttr, -Nat.reduceSubDiff]) <;> (repeat (refine (aw_draw (by kernel_rfl)).2 ?_; simp -dsimp (disch := first | omega | (simp only [← hy, List.length_cons, List.length_nil, List.length_map, List.length_append, List.length_take, List.length_drop, List.length_replicate, List.length_set, mkG_len] <;> omega) | fail) only [push_cast, if_pos, decide_eq_true, decide_eq_false, ← hy, simprocAttr, -Nat.reduceSubDiff]))
def E80 : Env := { T := T0, kp := look [(0, [0, 1]), (1, [1, 2]), (2, []), (3, [1, 2]), (4, [1, 2, 5]), (5, [1, 2, 5]), (6, [1, 2, 5]), (7, []), (8, [])] }
attribute [local push_cast] E80
set_option maxRecDepth 20000 in
set_option maxHeartbeats 1000000 in
theorem l3Ok (l : Lst) (w : Int) (hl : l.S.length ≤ 2097152) : Does Tryz.prog 80 [.ag (lstC false l), .sc (.int .i64 w)] (.sc (.bool (okLs l w)), []) := by
  refine does_of (E := E80) (rs := [.tmp 4]) (lent := []) tOk rfl Tryz.func80 rfl (by decide) rfl rfl (Nat.le_of_ble_eq_true rfl) (Nat.le_of_ble_eq_true rfl) ?_
  obtain ⟨M, hM⟩ : ∃ M, M = okLs l w := ⟨_, rfl⟩
  rw [← hM]
  unfold okLs at hM
  (simp -dsimp (disch := first | omega | (simp only [List.length_cons, List.length_nil, List.length_map, List.length_append, List.length_take, List.length_drop, List.length_replicate, List.length_set, mkG_len] <;> omega) | fail) only [push_cast, if_pos, decide_eq_true, decide_eq_false, simprocAttr, -Nat.reduceSubDiff]) <;> (repeat (refine (aw_draw (by kernel_rfl)).2 ?_; simp -dsimp (disch := first | omega | (simp only [List.length_cons, List.length_nil, List.length_map, List.length_append, List.length_take, List.length_drop, List.length_replicate, List.length_set, mkG_len] <;> omega) | fail) only [push_cast, if_pos, decide_eq_true, decide_eq_false, simprocAttr, -Nat.reduceSubDiff]))
  refine callC (l1Width ..) ?_
  by_cases c1 : inB w 1 8 = true
  rotate_left
  · have hv : M = false := by rw [hM]; simp [c1]
    (simp -dsimp (disch := first | omega | (simp only [c1, hv, List.length_cons, List.length_nil, List.length_map, List.length_append, List.length_take, List.length_drop, List.length_replicate, List.length_set, mkG_len] <;> omega) | fail) only [push_cast, if_pos, decide_eq_true, decide_eq_false, c1, hv, simprocAttr, -Nat.reduceSubDiff]) <;> (repeat (refine (aw_draw (by kernel_rfl)).2 ?_; simp -dsimp (disch := first | omega | (simp only [c1, hv, List.length_cons, List.length_nil, List.length_map, List.length_append, List.length_take, List.length_drop, List.length_replicate, List.length_set, mkG_len] <;> omega) | fail) only [push_cast, if_pos, decide_eq_true, decide_eq_false, c1, hv, simprocAttr, -Nat.reduceSubDiff]))
  (simp -dsimp (disch := first | omega | (simp only [c1, List.length_cons, List.length_nil, List.length_map, List.length_append, List.length_take, List.length_drop, List.length_replicate, List.length_set, mkG_len] <;> omega) | fail) only [push_cast, if_pos, decide_eq_true, decide_eq_false, c1, simprocAttr, -Nat.reduceSubDiff]) <;> (repeat (refine (aw_draw (by kernel_rfl)).2 ?_; simp -dsimp (disch := first | omega | (simp only [c1, List.length_cons, List.length_nil, List.length_map, List.length_append, List.length_take, List.length_drop, List.length_replicate, List.length_set, mkG_len] <;> omega) | fail) only [push_cast, if_pos, decide_eq_true, decide_eq_false, c1, simprocAttr, -Nat.reduceSubDiff]))
  refine callC (l1In ..) ?_
  by_cases c2 : inB l.sz 0 3000 = true
  rotate_left
  · have hv : M = false := by rw [hM]; simp [c2]
    (simp -dsimp (disch := first | omega | (simp only [c2, hv, List.length_cons, List.length_nil, List.length_map, List.length_append, List.length_take, List.length_drop, List.length_replicate, List.length_set, mkG_len] <;> omega) | fail) only [push_cast, if_pos, decide_eq_true, decide_eq_false, c2, hv, simprocAttr, -Nat.reduceSubDiff]) <;> (repeat (refine (aw_draw (by kernel_rfl)).2 ?_; simp -dsimp (disch := first | omega | (simp only [c2, hv, List.length_cons, List.length_nil, List.length_map, List.length_append, List.length_take, List.length_drop, List.length_replicate, List.length_set, mkG_len] <;> omega) | fail) only [push_cast, if_pos, decide_eq_true, decide_eq_false, c2, hv, simprocAttr, -Nat.reduceSubDiff]))
  by_cases c4 : l.S.length ≤ 375
  rotate_left
  · have hv : M = false := by rw [hM]; simp [c4]
    (simp -dsimp (disch := first | omega | (simp only [c2, hv, List.length_cons, List.length_nil, List.length_map, List.length_append, List.length_take, List.length_drop, List.length_replicate, List.length_set, mkG_len] <;> omega) | fail) only [push_cast, if_pos, decide_eq_true, decide_eq_false, c2, hv, simprocAttr, -Nat.reduceSubDiff]) <;> (repeat (refine (aw_draw (by kernel_rfl)).2 ?_; simp -dsimp (disch := first | omega | (simp only [c2, hv, List.length_cons, List.length_nil, List.length_map, List.length_append, List.length_take, List.length_drop, List.length_replicate, List.length_set, mkG_len] <;> omega) | fail) only [push_cast, if_pos, decide_eq_true, decide_eq_false, c2, hv, simprocAttr, -Nat.reduceSubDiff]))
  have hM : (l.S.all fun s => decide ((s.size : Int) = w)) = M := by rw [hM]; simp [c1, c2, c4]
  (simp -dsimp (disch := first | omega | (simp only [c2, List.length_cons, List.length_nil, List.length_map, List.length_append, List.length_take, List.length_drop, List.length_replicate, List.length_set, mkG_len] <;> omega) | fail) only [push_cast, if_pos, decide_eq_true, decide_eq_false, c2, simprocAttr, -Nat.reduceSubDiff]) <;> (repeat (refine (aw_draw (by kernel_rfl)).2 ?_; simp -dsimp (disch := first | omega | (simp only [c2, List.length_cons, List.length_nil, List.length_map, List.length_append, List.length_take, List.length_drop, List.length_replicate, List.length_set, mkG_len] <;> omega) | fail) only [push_cast, if_pos, decide_eq_true, decide_eq_false, c2, simprocAttr, -Nat.reduceSubDiff]))
  refine loop_ind (α := Nat) (fun i => i ≤ l.S.length ∧ ((l.S.drop i).all fun s => decide ((s.size : Int) = w)) = M)
    (fun i => ⟨[(1, .sc (.int .i64 w)), (2, .pt 1 0 0), (5, .sc (.int .i64 i))], [(1, .bx (lstC false l))], 2⟩) (fun i => l.S.length - i) 0 ⟨Nat.zero_le _, hM⟩ ?_ ?_
  · simp -dsimp (disch := first | omega | (simp only [List.length_cons, List.length_nil, List.length_map, List.length_append, List.length_take, List.length_drop, List.length_replicate, List.length_set, mkG_len] <;> omega) | fail) only [push_cast, if_pos, decide_eq_true, decide_eq_false, simprocAttr, -Nat.reduceSubDiff]
  rintro i ⟨hi, hy⟩ ih
  by_cases h : i < l.S.length
  · obtain ⟨x, hx⟩ := ex_get h
    rw [drop_step hx, List.all_cons] at hy
    by_cases e : (x.size : Int) = w
    · (simp -dsimp (disch := first | omega | (simp only [hx, e, List.length_cons, List.length_nil, List.length_map, List.length_append, List.length_take, List.length_drop, List.length_replicate, List.length_set, mkG_len] <;> omega) | fail) only [push_cast, if_pos, decide_eq_true, decide_eq_false, hx, e, simprocAttr, -Nat.reduceSubDiff]) <;> (repeat (refine (aw_draw (by kernel_rfl)).2 ?_; simp -dsimp (disch := first | omega | (simp only [hx, e, List.length_cons, List.length_nil, List.length_map, List.length_append, List.length_take, List.length_drop, List.length_replicate, List.length_set, mkG_len] <;> omega) | fail) only [push_cast, if_pos, decide_eq_true, decide_eq_false, hx, e, simprocAttr, -Nat.reduceSubDiff]))
      refine ih (i + 1) _ (by omega) ⟨h, by rw [← hy]; simp [e]⟩ ?_
      simp -dsimp (disch := first | omega | (simp only [wr_id, List.length_cons, List.length_nil, List.length_map, List.length_append, List.length_take, List.length_drop, List.length_replicate, List.length_set, mkG_len] <;> omega) | fail) only [push_cast, if_pos, decide_eq_true, decide_eq_false, wr_id, simprocAttr, -Nat.reduceSubDiff]
    · have hy : false = M := by rw [← hy]; simp [e]
      (simp -dsimp (disch := first | omega | (simp only [hx, e, ← hy, List.length_cons, List.length_nil, List.length_map, List.length_append, List.length_take, List.length_drop, List.length_replicate, List.length_set, mkG_len] <;> omega) | fail) only [push_cast, if_pos, decide_eq_true, decide_eq_false, hx, e, ← hy, simprocAttr, -Nat.reduceSubDiff]) <;> (repeat (refine (aw_draw (by kernel_rfl)).2 ?_; simp -dsimp (disch := first | omega | (simp only [hx, e, ← hy, List.length_cons, List.length_nil, List.length_map, List.length_append, List.length_take, List.length_drop, List.length_replicate, List.length_set, mkG_len] <;> omega) | fail) only [push_cast, if_pos, decide_eq_true, decide_eq_false, hx, e, ← hy, simprocAttr, -Nat.reduceSubDiff]))
  · rw [List.drop_eq_nil_of_le (by omega)] at hy
    have hy : true = M := by rw [← hy]; rfl
    (simp -dsimp (disch := first | omega | (simp only [← hy, List.length_cons, List.length_nil, List.length_map, List.length_append, List.length_take, List.length_drop, List.length_replicate, List.length_set, mkG_len] <;> omega) | fail) only [push_cast, if_pos, decide_eq_true, decide_eq_false, ← hy, simprocAttr, -Nat.reduceSubDiff]) <;> (repeat (refine (aw_draw (by kernel_rfl)).2 ?_; simp -dsimp (disch := first | omega | (simp only [← hy, List.length_cons, List.length_nil, List.length_map, List.length_append, List.length_take, List.length_drop, List.length_replicate, List.length_set, mkG_len] <;> omega) | fail) only [push_cast, if_pos, decide_eq_true, decide_eq_false, ← hy, simprocAttr, -Nat.reduceSubDiff]))
theorem decD_len : ∀ n : Nat, (Lib.decDigits n).length ≤ n + 1 := by
  intro n
  induction n using Nat.strongRecOn with
  | _ n ih =>
    rw [Lib.decDigits]
    split
    · simp
    · have := ih (n / 10) (by omega)
      rw [List.length_append, List.length_cons, List.length_nil]; omega
def E81 : Env := { T := T0, kp := look [(0, [0]), (1, [0]), (2, [0]), (3, [0])], dp := look2 [(3, [[], [0], [0, 1], [], [3], [3, 4], [3, 4, 5], [3, 4, 5, 6], [3, 4, 5, 6, 7], [0, 1, 2, 3, 4, 5, 6, 7, 8], [0, 1, 2, 3, 4, 5, 6, 7, 8, 9]])] }
attribute [local push_cast] E81
set_option maxRecDepth 20000 in
set_option maxHeartbeats 1000000 in
theorem l3Dec_step (n : Nat) (hn : n ≤ 1000000) (ih : ∀ q : Nat, q < n → q ≤ 1000000 → Does Tryz.prog 81 [.sc (.int .i64 q)] (.sc (.string (stB (Lib.decDigits q))), [])) : Does Tryz.prog 81 [.sc (.int .i64 n)] (.sc (.string (stB (Lib.decDigits n))), []) := by
  refine does_of (E := E81) (rs := [.tmp 2]) (lent := []) tOk rfl Tryz.func81 rfl (by decide) rfl rfl (Nat.le_of_ble_eq_true rfl) (Nat.le_of_ble_eq_true rfl) ?_
  obtain ⟨R, hR⟩ : ∃ R, R = stB (Lib.decDigits n) := ⟨_, rfl⟩
  rw [← hR]
  by_cases h : n < 10
  · have e : (⟨#[UInt8.ofNat (wr .u8 (48 + (n : Int))).toNat]⟩ : ByteArray) = R := by
      rw [hR, Lib.decDigits, dif_pos h]
      have : (wr .u8 (48 + (n : Int))).toNat = 48 + n := by rw [wr_u8]; omega
      rw [this]; rfl
    clear hR ih
    (simp -dsimp (disch := first | omega | (simp only [h, wr_id, e, List.length_cons, List.length_nil, List.length_map, List.length_append, List.length_take, List.length_drop, List.length_replicate, List.length_set, mkG_len] <;> omega) | fail) only [push_cast, if_pos, decide_eq_true, decide_eq_false, h, wr_id, e, simprocAttr, -Nat.reduceSubDiff]) <;> (repeat (refine (aw_draw (by kernel_rfl)).2 ?_; simp -dsimp (disch := first | omega | (simp only [h, wr_id, e, List.length_cons, List.length_nil, List.length_map, List.length_append, List.length_take, List.length_drop, List.length_replicate, List.length_set, mkG_len] <;> omega) | fail) only [push_cast, if_pos, decide_eq_true, decide_eq_false, h, wr_id, e, simprocAttr, -Nat.reduceSubDiff]))
  · obtain ⟨q, hq⟩ : ∃ q, q = n / 10 := ⟨_, rfl⟩
    obtain ⟨r, hr⟩ : ∃ r, r = n % 10 := ⟨_, rfl⟩
    have e1 : (n : Int).tdiv 10 = (q : Int) := by rw [hq, Int.tdiv_eq_ediv_of_nonneg (by omega)]; rfl
    have e2 : (n : Int).tmod 10 = (r : Int) := by rw [hr, Int.tmod_eq_emod_of_nonneg (by omega)]; rfl
    have hr9 : r < 10 := by omega
    have hqn : q < n := by omega
    have hc := ih q hqn (by omega)
    have hdl := decD_len q
    obtain ⟨X, hX⟩ : ∃ X, X = stB (Lib.decDigits q) := ⟨_, rfl⟩
    have hXs : X.size ≤ q + 1 := by rw [hX, stB_size]; exact hdl
    have e : X ++ strN [wr .u8 (48 + (r : Int))] = R := by
      have : (wr .u8 (48 + (r : Int))).toNat = 48 + r := by rw [wr_u8]; omega
      rw [← strN_one, this, hR, hX, Lib.decDigits.eq_def n, dif_neg h, ← hq, ← hr, ← stB_app]; rfl
    have es : (strN [wr .u8 (48 + (r : Int))]).size = 1 := by rw [strN_size]; rfl
    rw [← hX] at hc
    clear hR hX ih hq hr hdl
    (simp -dsimp (disch := first | omega | (simp only [h, e1, wr_id, List.length_cons, List.length_nil, List.length_map, List.length_append, List.length_take, List.length_drop, List.length_replicate, List.length_set, mkG_len] <;> omega) | fail) only [push_cast, if_pos, decide_eq_true, decide_eq_false, h, e1, wr_id, simprocAttr, -Nat.reduceSubDiff]) <;> (repeat (refine (aw_draw (by kernel_rfl)).2 ?_; simp -dsimp (disch := first | omega | (simp only [h, e1, wr_id, List.length_cons, List.length_nil, List.length_map, List.length_append, List.length_take, List.length_drop, List.length_replicate, List.length_set, mkG_len] <;> omega) | fail) only [push_cast, if_pos, decide_eq_true, decide_eq_false, h, e1, wr_id, simprocAttr, -Nat.reduceSubDiff]))
    refine callC hc ?_
    (simp -dsimp (disch := first | omega | (simp only [h, e1, e2, wr_id, strN_one, e, es, List.length_cons, List.length_nil, List.length_map, List.length_append, List.length_take, List.length_drop, List.length_replicate, List.length_set, mkG_len] <;> omega) | fail) only [push_cast, if_pos, decide_eq_true, decide_eq_false, h, e1, e2, wr_id, strN_one, e, es, simprocAttr, -Nat.reduceSubDiff]) <;> (repeat (refine (aw_draw (by kernel_rfl)).2 ?_; simp -dsimp (disch := first | omega | (simp only [h, e1, e2, wr_id, strN_one, e, es, List.length_cons, List.length_nil, List.length_map, List.length_append, List.length_take, List.length_drop, List.length_replicate, List.length_set, mkG_len] <;> omega) | fail) only [push_cast, if_pos, decide_eq_true, decide_eq_false, h, e1, e2, wr_id, strN_one, e, es, simprocAttr, -Nat.reduceSubDiff]))
theorem l3Dec : ∀ n : Nat, n ≤ 1000000 → Does Tryz.prog 81 [.sc (.int .i64 n)] (.sc (.string (stB (Lib.decDigits n))), []) := by
  intro n
  induction n using Nat.strongRecOn with
  | _ n ih => exact fun hn => l3Dec_step n hn ih
theorem rep2 {α : Type} (a : α) : List.replicate 2 a = [a, a] := rfl
attribute [local push_cast] rep2
def E82 : Env := { T := T0, kp := look [(0, [0]), (1, [0]), (2, [0, 3]), (3, [0, 3, 4]), (4, [0, 3, 4, 5]), (5, [0, 3, 4, 5]), (6, [0, 3, 4, 5]), (7, [4])], dp := look2 [(6, [[], [], [], [], [2, 3], [2, 3, 4], [1, 2, 3, 4, 5], [], [], [], [8, 9], [8, 9, 10], [7, 8, 9, 10, 11], [1, 2, 3, 4, 5, 6, 7, 8, 9, 10, 11, 12], [0, 1, 2, 3, 4, 5, 6, 7, 8, 9, 10, 11, 12, 13], [0, 1, 2, 3, 4, 5, 6, 7, 8, 9, 10, 11, 12, 13, 14]])] }
attribute [local push_cast] E82
set_option maxRecDepth 20000 in
set_option maxHeartbeats 1000000 in
theorem l3Hex (s : Str) (hs : s.size ≤ 1000000) : Does Tryz.prog 82 [.sc (.string s)] (.sc (.string (stB (Lib.Hx.encode (bt s)))), []) := by
  refine does_of (E := E82) (rs := [.tmp 2]) (lent := []) tOk rfl Tryz.func82 rfl (by decide) rfl rfl (Nat.le_of_ble_eq_true rfl) (Nat.le_of_ble_eq_true rfl) ?_
  obtain ⟨T, hT⟩ : ∃ T : Str, T = ⟨#[48, 49, 50, 51, 52, 53, 54, 55, 56, 57, 97, 98, 99, 100, 101, 102]⟩ := ⟨_, rfl⟩
  (simp -dsimp (disch := first | omega | (simp only [List.length_cons, List.length_nil, List.length_map, List.length_append, List.length_take, List.length_drop, List.length_replicate, List.length_set, mkG_len] <;> omega) | fail) only [push_cast, if_pos, decide_eq_true, decide_eq_false, simprocAttr, -Nat.reduceSubDiff]) <;> (repeat (refine (aw_draw (by kernel_rfl)).2 ?_; simp -dsimp (disch := first | omega | (simp only [List.length_cons, List.length_nil, List.length_map, List.length_append, List.length_take, List.length_drop, List.length_replicate, List.length_set, mkG_len] <;> omega) | fail) only [push_cast, if_pos, decide_eq_true, decide_eq_false, simprocAttr, -Nat.reduceSubDiff]))
  refine loop_ind (α := Nat) (fun i => i ≤ s.size)
    (fun i => ⟨[(0, .sc (.string s)), (3, .sc (.string T)), (4, .ow 1 0 (Lib.Hx.encode ((bt s).take i)).length), (5, .sc (.int .i64 i))], [(1, .ar 1 0 ((Lib.Hx.encode ((bt s).take i)).map byteRow))], 2⟩) (fun i => s.size - i) 0 (Nat.zero_le _) ?_ ?_
  · simp -dsimp (disch := first | omega | (simp only [List.take_zero, List.length_cons, List.length_nil, List.length_map, List.length_append, List.length_take, List.length_drop, List.length_replicate, List.length_set, mkG_len] <;> omega) | fail) only [push_cast, if_pos, decide_eq_true, decide_eq_false, List.take_zero, simprocAttr, -Nat.reduceSubDiff]
    rw [hT]
    rfl
  intro i hi ih
  have hlen : (Lib.Hx.encode ((bt s).take i)).length = 2 * i := by rw [Lib.Hx.encode_length, List.length_take, bt_len]; omega
  by_cases h : i < s.size
  · obtain ⟨u, hu⟩ := ex_get (by rw [bt_len]; exact h : i < (bt s).length)
    have hub : u.toNat < 256 := u.toNat_lt
    obtain ⟨q, hq⟩ : ∃ q, q = u.toNat / 16 := ⟨_, rfl⟩
    obtain ⟨r, hr⟩ : ∃ r, r = u.toNat % 16 := ⟨_, rfl⟩
    have e1 : wr .u8 ((u.toNat : Int).tdiv 16) = (q : Int) := by rw [wr_u8, hq, Int.tdiv_eq_ediv_of_nonneg (by omega)]; omega
    have e2 : (u.toNat : Int).tmod 16 = (r : Int) := by rw [hr, Int.tmod_eq_emod_of_nonneg (by omega)]; omega
    have g : ∀ d : Nat, d < 16 → (bt T)[d]? = some (Lib.Hx.digit d) := by
      intro d hd
      rw [hT]
      have hl : d < Lib.Hx.tab.data.toList.length := hd
      show Lib.Hx.tab.data.toList[d]? = some (Lib.Hx.tab.data.toList[d]?.getD 0)
      rw [List.getElem?_eq_getElem hl]; rfl
    have g1 := g q (by omega)
    have g2 := g r (by omega)
    have hq16 : q < 16 := by omega
    have hr16 : r < 16 := by omega
    have hTs : T.size = 16 := by rw [hT]; rfl
    (simp -dsimp (disch := first | omega | (simp only [hu, e1, e2, g1, g2, hTs, List.length_cons, List.length_nil, List.length_map, List.length_append, List.length_take, List.length_drop, List.length_replicate, List.length_set, mkG_len] <;> omega) | fail) only [push_cast, if_pos, decide_eq_true, decide_eq_false, hu, e1, e2, g1, g2, hTs, simprocAttr, -Nat.reduceSubDiff]) <;> (repeat (refine (aw_draw (by kernel_rfl)).2 ?_; simp -dsimp (disch := first | omega | (simp only [hu, e1, e2, g1, g2, hTs, List.length_cons, List.length_nil, List.length_map, List.length_append, List.length_take, List.length_drop, List.length_replicate, List.length_set, mkG_len] <;> omega) | fail) only [push_cast, if_pos, decide_eq_true, decide_eq_false, hu, e1, e2, g1, g2, hTs, simprocAttr, -Nat.reduceSubDiff]))
    refine ih (i + 1) _ (by omega) h ?_
    have e3 : Lib.Hx.encode ((bt s).take (i + 1)) = Lib.Hx.encode ((bt s).take i) ++ [Lib.Hx.digit q, Lib.Hx.digit r] := by
      rw [take_step hu, hq, hr]
      unfold Lib.Hx.encode
      rw [List.flatMap_append]; simp
    rw [e3]
    simp -dsimp (disch := first | omega | (simp only [wr_id, List.length_append, List.length_cons, List.length_nil, List.map_append, List.map_cons, List.map_nil, byteRow, List.length_cons, List.length_nil, List.length_map, List.length_append, List.length_take, List.length_drop, List.length_replicate, List.length_set, mkG_len] <;> omega) | fail) only [push_cast, if_pos, decide_eq_true, decide_eq_false, wr_id, List.length_append, List.length_cons, List.length_nil, List.map_append, List.map_cons, List.map_nil, byteRow, simprocAttr, -Nat.reduceSubDiff]
    trace_state
  · have hl : (bt s).take i = bt s := List.take_of_length_le (by rw [bt_len]; omega)
    rw [hl] at hlen
    (simp -dsimp (disch := first | omega | (simp only [hl, List.length_cons, List.length_nil, List.length_map, List.length_append, List.length_take, List.length_drop, List.length_replicate, List.length_set, mkG_len] <;> omega) | fail) only [push_cast, if_pos, decide_eq_true, decide_eq_false, hl, simprocAttr, -Nat.reduceSubDiff]) <;> (repeat (refine (aw_draw (by kernel_rfl)).2 ?_; simp -dsimp (disch := first | omega | (simp only [hl, List.length_cons, List.length_nil, List.length_map, List.length_append, List.length_take, List.length_drop, List.length_replicate, List.length_set, mkG_len] <;> omega) | fail) only [push_cast, if_pos, decide_eq_true, decide_eq_false, hl, simprocAttr, -Nat.reduceSubDiff]))
    rfl
end Go.Proofs.YtgkncgiglmdnaaaGreatDoor.Mx

/- Lists' forms: FormList. -/
namespace Go.Proofs.YtgkncgiglmdnaaaGreatDoor.Mx
set_option linter.all false
open Go Go.RowKit Go.Proofs
set_option linter.unusedSimpArgs false
theorem enc_ne {s : Str} (h : 1 ≤ s.size) : bt s ≠ [] := fun e => by
  have : (bt s).length = s.size := bt_len
  rw [e] at this; simp at this; omega
theorem formB_step {l : List Str} {i : Nat} {x : Str} (h : l[i]? = some x) : (l.take (i + 1)).flatMap lineB = (l.take i).flatMap lineB ++ lineB x := by
  rw [take_step h, List.flatMap_append]; simp
def E15 : Env := { T := T0, kp := look [(0, [0, 1]), (1, [1, 2]), (2, []), (3, [2]), (4, [2, 5]), (5, [5, 18, 19, 20]), (6, [5, 18, 19, 20]), (7, [5, 7, 18, 19, 20]), (8, [5, 18, 19, 20]), (9, [5])] }
attribute [local push_cast] E15
set_option maxRecDepth 20000 in
set_option maxHeartbeats 1000000 in
theorem implFormList (l : Lst) (w : Int) (hl : l.S.length ≤ 2097152) : Does Tryz.prog 15 [.ag (lstC false l), .sc (.int .i64 w)] (.sc (.string (formL l w)), []) := by
  refine does_of (E := E15) (rs := [.tmp 4]) (lent := []) tOk rfl Tryz.func15 rfl (by decide) rfl rfl (Nat.le_of_ble_eq_true rfl) (Nat.le_of_ble_eq_true rfl) ?_
  obtain ⟨M, hM⟩ : ∃ M, M = formL l w := ⟨_, rfl⟩
  rw [← hM]
  unfold formL at hM
  (simp -dsimp (disch := first | omega | (simp only [List.length_cons, List.length_nil, List.length_map, List.length_append, List.length_take, List.length_drop, List.length_replicate, List.length_set, mkG_len] <;> omega) | fail) only [push_cast, if_pos, decide_eq_true, decide_eq_false, simprocAttr, -Nat.reduceSubDiff]) <;> (repeat (refine (aw_draw (by kernel_rfl)).2 ?_; simp -dsimp (disch := first | omega | (simp only [List.length_cons, List.length_nil, List.length_map, List.length_append, List.length_take, List.length_drop, List.length_replicate, List.length_set, mkG_len] <;> omega) | fail) only [push_cast, if_pos, decide_eq_true, decide_eq_false, simprocAttr, -Nat.reduceSubDiff]))
  refine callC (listOk l w hl) ?_
  cases ho : okLs l w with
  | false =>
    rw [ho, if_neg (by simp)] at hM
    have hM : M = ⟨#[]⟩ := hM
    (simp -dsimp (disch := first | omega | (simp only [hM, List.length_cons, List.length_nil, List.length_map, List.length_append, List.length_take, List.length_drop, List.length_replicate, List.length_set, mkG_len] <;> omega) | fail) only [push_cast, if_pos, decide_eq_true, decide_eq_false, hM, simprocAttr, -Nat.reduceSubDiff]) <;> (repeat (refine (aw_draw (by kernel_rfl)).2 ?_; simp -dsimp (disch := first | omega | (simp only [hM, List.length_cons, List.length_nil, List.length_map, List.length_append, List.length_take, List.length_drop, List.length_replicate, List.length_set, mkG_len] <;> omega) | fail) only [push_cast, if_pos, decide_eq_true, decide_eq_false, hM, simprocAttr, -Nat.reduceSubDiff]))
  | true =>
  rw [ho, if_pos rfl] at hM
  obtain ⟨w1, w8, s0, s3, hn, hsz⟩ := okLs_up ho
  obtain ⟨N, hN⟩ : ∃ N : Nat, l.sz = N := ⟨l.sz.toNat, by omega⟩
  have hit := itoa N (by omega)
  rw [← hN] at hit
  have hNt : l.sz.toNat = N := by omega
  have hdl := decD_len N
  obtain ⟨P, hP⟩ : ∃ P, P = sizB ++ Lib.decDigits N ++ [10] := ⟨_, rfl⟩
  have hPl : P.length ≤ 3010 := by rw [hP]; simp [sizB]; omega
  have hMf : M = stB (P ++ l.S.flatMap lineB) := by rw [hM, formB, hNt, hP]
  have z1 : (⟨#[115, 105, 122, 101, 32]⟩ : ByteArray) = stB sizB := rfl
  have z2 : (⟨#[10]⟩ : ByteArray) = stB [10] := rfl
  have z3 : stB sizB ++ stB (Lib.decDigits N) = stB (sizB ++ Lib.decDigits N) := stB_app _ _
  have z4 : stB (sizB ++ Lib.decDigits N) ++ stB [10] = stB P := by rw [stB_app, hP]
  have z5 : (stB sizB).size = 5 := rfl
  have z6 : (stB (Lib.decDigits N)).size ≤ 3001 := by rw [stB_size]; omega
  have z7 : (stB (sizB ++ Lib.decDigits N)).size ≤ 3006 := by rw [stB_size, List.length_append]; simp [sizB]; omega
  have z8 : (stB [10]).size = 1 := rfl
  have z9 : (stB P).size ≤ 3010 := by rw [stB_size]; exact hPl
  clear hM hP
  generalize stB (Lib.decDigits N) = D at *
  generalize stB (sizB ++ Lib.decDigits N) = D2 at *
  (simp -dsimp (disch := first | omega | (simp only [List.length_cons, List.length_nil, List.length_map, List.length_append, List.length_take, List.length_drop, List.length_replicate, List.length_set, mkG_len] <;> omega) | fail) only [push_cast, if_pos, decide_eq_true, decide_eq_false, simprocAttr, -Nat.reduceSubDiff]) <;> (repeat (refine (aw_draw (by kernel_rfl)).2 ?_; simp -dsimp (disch := first | omega | (simp only [List.length_cons, List.length_nil, List.length_map, List.length_append, List.length_take, List.length_drop, List.length_replicate, List.length_set, mkG_len] <;> omega) | fail) only [push_cast, if_pos, decide_eq_true, decide_eq_false, simprocAttr, -Nat.reduceSubDiff]))
  refine callC hit ?_
  (simp -dsimp (disch := first | omega | (simp only [z1, z2, z3, z4, z5, z8, List.length_cons, List.length_nil, List.length_map, List.length_append, List.length_take, List.length_drop, List.length_replicate, List.length_set, mkG_len] <;> omega) | fail) only [push_cast, if_pos, decide_eq_true, decide_eq_false, z1, z2, z3, z4, z5, z8, simprocAttr, -Nat.reduceSubDiff]) <;> (repeat (refine (aw_draw (by kernel_rfl)).2 ?_; simp -dsimp (disch := first | omega | (simp only [z1, z2, z3, z4, z5, z8, List.length_cons, List.length_nil, List.length_map, List.length_append, List.length_take, List.length_drop, List.length_replicate, List.length_set, mkG_len] <;> omega) | fail) only [push_cast, if_pos, decide_eq_true, decide_eq_false, z1, z2, z3, z4, z5, z8, simprocAttr, -Nat.reduceSubDiff]))
  refine loop_ind (α := Nat) (fun i => i ≤ l.S.length)
    (fun i => ⟨[(5, .sc (.string (stB (P ++ (l.S.take i).flatMap lineB)))), (18, .sl false 1 (l.S.map strR)), (19, .sc (.int .i64 l.S.length)), (20, .sc (.int .i64 i))], [], 1⟩) (fun i => l.S.length - i) 0 (Nat.zero_le _) ?_ ?_
  · simp -dsimp (disch := first | omega | (simp only [List.take_zero, List.flatMap_nil, List.append_nil, List.length_cons, List.length_nil, List.length_map, List.length_append, List.length_take, List.length_drop, List.length_replicate, List.length_set, mkG_len] <;> omega) | fail) only [push_cast, if_pos, decide_eq_true, decide_eq_false, List.take_zero, List.flatMap_nil, List.append_nil, simprocAttr, -Nat.reduceSubDiff]
  intro i hi ih
  have hlt := lines_len (S := l.S.take i) (fun s hs => hsz s (List.mem_of_mem_take hs)) w8
  rw [List.length_take] at hlt
  by_cases h : i < l.S.length
  · obtain ⟨x, hx⟩ := ex_get h
    have hxs := hsz x (List.mem_of_getElem? hx)
    have y0 : (stB (P ++ (l.S.take i).flatMap lineB)).size ≤ 10000 := by rw [stB_size, List.length_append]; omega
    have y1 : stB (Lib.Hx.encode (bt x)) ++ stB [10] = stB (lineB x) := stB_app _ _
    have y2 : (stB (Lib.Hx.encode (bt x))).size ≤ 16 := by rw [stB_size, Lib.Hx.encode_length, bt_len]; omega
    have y3 : (stB (lineB x)).size ≤ 17 := by rw [stB_size, lineB_len]; omega
    have y4 : stB (P ++ (l.S.take i).flatMap lineB) ++ stB (lineB x) = stB (P ++ (l.S.take (i + 1)).flatMap lineB) := by rw [stB_app, formB_step hx, List.append_assoc]
    have hc := hexEnc (bt x) (enc_ne (by omega)) (by rw [bt_len]; omega)
    generalize stB (Lib.Hx.encode (bt x)) = H at *
    generalize stB (lineB x) = L at *
    generalize stB (P ++ (l.S.take i).flatMap lineB) = A at *
    have hx8 : (x.size ≤ 140737488355328) = True := eq_true (by omega)
    (simp -dsimp (disch := first | omega | (simp only [hx, hx8, List.length_cons, List.length_nil, List.length_map, List.length_append, List.length_take, List.length_drop, List.length_replicate, List.length_set, mkG_len] <;> omega) | fail) only [push_cast, if_pos, decide_eq_true, decide_eq_false, hx, hx8, simprocAttr, -Nat.reduceSubDiff]) <;> (repeat (refine (aw_draw (by kernel_rfl)).2 ?_; simp -dsimp (disch := first | omega | (simp only [hx, hx8, List.length_cons, List.length_nil, List.length_map, List.length_append, List.length_take, List.length_drop, List.length_replicate, List.length_set, mkG_len] <;> omega) | fail) only [push_cast, if_pos, decide_eq_true, decide_eq_false, hx, hx8, simprocAttr, -Nat.reduceSubDiff]))
    refine callC hc ?_
    (simp -dsimp (disch := first | omega | (simp only [z2, z8, y1, y4, List.length_cons, List.length_nil, List.length_map, List.length_append, List.length_take, List.length_drop, List.length_replicate, List.length_set, mkG_len] <;> omega) | fail) only [push_cast, if_pos, decide_eq_true, decide_eq_false, z2, z8, y1, y4, simprocAttr, -Nat.reduceSubDiff]) <;> (repeat (refine (aw_draw (by kernel_rfl)).2 ?_; simp -dsimp (disch := first | omega | (simp only [z2, z8, y1, y4, List.length_cons, List.length_nil, List.length_map, List.length_append, List.length_take, List.length_drop, List.length_replicate, List.length_set, mkG_len] <;> omega) | fail) only [push_cast, if_pos, decide_eq_true, decide_eq_false, z2, z8, y1, y4, simprocAttr, -Nat.reduceSubDiff]))
    refine ih (i + 1) _ (by omega) h ?_
    simp -dsimp (disch := first | omega | (simp only [wr_id, List.length_cons, List.length_nil, List.length_map, List.length_append, List.length_take, List.length_drop, List.length_replicate, List.length_set, mkG_len] <;> omega) | fail) only [push_cast, if_pos, decide_eq_true, decide_eq_false, wr_id, simprocAttr, -Nat.reduceSubDiff]
  · have hi : i = l.S.length := by omega
    subst hi
    rw [List.take_length, ← hMf]
    (simp -dsimp (disch := first | omega | (simp only [List.length_cons, List.length_nil, List.length_map, List.length_append, List.length_take, List.length_drop, List.length_replicate, List.length_set, mkG_len] <;> omega) | fail) only [push_cast, if_pos, decide_eq_true, decide_eq_false, simprocAttr, -Nat.reduceSubDiff]) <;> (repeat (refine (aw_draw (by kernel_rfl)).2 ?_; simp -dsimp (disch := first | omega | (simp only [List.length_cons, List.length_nil, List.length_map, List.length_append, List.length_take, List.length_drop, List.length_replicate, List.length_set, mkG_len] <;> omega) | fail) only [push_cast, if_pos, decide_eq_true, decide_eq_false, simprocAttr, -Nat.reduceSubDiff]))
def E18 : Env := { T := T0, kp := look [(0, [0, 1]), (1, [1, 2]), (2, []), (3, [2]), (4, [2, 5]), (5, [2, 5, 6]), (6, [2, 5, 6]), (7, [2, 5, 6]), (8, [2, 5, 6]), (9, [5])] }
attribute [local push_cast] E18
set_option maxRecDepth 20000 in
set_option maxHeartbeats 1000000 in
theorem specFormList (l : Lst) (w : Int) (hl : l.S.length ≤ 2097152) : Does Tryz.prog 18 [.ag (lstC false l), .sc (.int .i64 w)] (.sc (.string (formL l w)), []) := by
  refine does_of (E := E18) (rs := [.tmp 4]) (lent := []) tOk rfl Tryz.func18 rfl (by decide) rfl rfl (Nat.le_of_ble_eq_true rfl) (Nat.le_of_ble_eq_true rfl) ?_
  obtain ⟨M, hM⟩ : ∃ M, M = formL l w := ⟨_, rfl⟩
  rw [← hM]
  unfold formL at hM
  (simp -dsimp (disch := first | omega | (simp only [List.length_cons, List.length_nil, List.length_map, List.length_append, List.length_take, List.length_drop, List.length_replicate, List.length_set, mkG_len] <;> omega) | fail) only [push_cast, if_pos, decide_eq_true, decide_eq_false, simprocAttr, -Nat.reduceSubDiff]) <;> (repeat (refine (aw_draw (by kernel_rfl)).2 ?_; simp -dsimp (disch := first | omega | (simp only [List.length_cons, List.length_nil, List.length_map, List.length_append, List.length_take, List.length_drop, List.length_replicate, List.length_set, mkG_len] <;> omega) | fail) only [push_cast, if_pos, decide_eq_true, decide_eq_false, simprocAttr, -Nat.reduceSubDiff]))
  refine callC (l3Ok l w hl) ?_
  cases ho : okLs l w with
  | false =>
    rw [ho, if_neg (by simp)] at hM
    have hM : M = ⟨#[]⟩ := hM
    (simp -dsimp (disch := first | omega | (simp only [hM, List.length_cons, List.length_nil, List.length_map, List.length_append, List.length_take, List.length_drop, List.length_replicate, List.length_set, mkG_len] <;> omega) | fail) only [push_cast, if_pos, decide_eq_true, decide_eq_false, hM, simprocAttr, -Nat.reduceSubDiff]) <;> (repeat (refine (aw_draw (by kernel_rfl)).2 ?_; simp -dsimp (disch := first | omega | (simp only [hM, List.length_cons, List.length_nil, List.length_map, List.length_append, List.length_take, List.length_drop, List.length_replicate, List.length_set, mkG_len] <;> omega) | fail) only [push_cast, if_pos, decide_eq_true, decide_eq_false, hM, simprocAttr, -Nat.reduceSubDiff]))
  | true =>
  rw [ho, if_pos rfl] at hM
  obtain ⟨w1, w8, s0, s3, hn, hsz⟩ := okLs_up ho
  obtain ⟨N, hN⟩ : ∃ N : Nat, l.sz = N := ⟨l.sz.toNat, by omega⟩
  have hit := l3Dec N (by omega)
  rw [← hN] at hit
  have hNt : l.sz.toNat = N := by omega
  have hdl := decD_len N
  obtain ⟨P, hP⟩ : ∃ P, P = sizB ++ Lib.decDigits N ++ [10] := ⟨_, rfl⟩
  have hPl : P.length ≤ 3010 := by rw [hP]; simp [sizB]; omega
  have hMf : M = stB (P ++ l.S.flatMap lineB) := by rw [hM, formB, hNt, hP]
  have z1 : (⟨#[115, 105, 122, 101, 32]⟩ : ByteArray) = stB sizB := rfl
  have z2 : (⟨#[10]⟩ : ByteArray) = stB [10] := rfl
  have z3 : stB sizB ++ stB (Lib.decDigits N) = stB (sizB ++ Lib.decDigits N) := stB_app _ _
  have z4 : stB (sizB ++ Lib.decDigits N) ++ stB [10] = stB P := by rw [stB_app, hP]
  have z5 : (stB sizB).size = 5 := rfl
  have z6 : (stB (Lib.decDigits N)).size ≤ 3001 := by rw [stB_size]; omega
  have z7 : (stB (sizB ++ Lib.decDigits N)).size ≤ 3006 := by rw [stB_size, List.length_append]; simp [sizB]; omega
  have z8 : (stB [10]).size = 1 := rfl
  have z9 : (stB P).size = P.length := stB_size P
  have z10 : bt (stB P) = P := bt_stB P
  clear hM hP
  generalize stB (Lib.decDigits N) = D at *
  generalize stB (sizB ++ Lib.decDigits N) = D2 at *
  (simp -dsimp (disch := first | omega | (simp only [List.length_cons, List.length_nil, List.length_map, List.length_append, List.length_take, List.length_drop, List.length_replicate, List.length_set, mkG_len] <;> omega) | fail) only [push_cast, if_pos, decide_eq_true, decide_eq_false, simprocAttr, -Nat.reduceSubDiff]) <;> (repeat (refine (aw_draw (by kernel_rfl)).2 ?_; simp -dsimp (disch := first | omega | (simp only [List.length_cons, List.length_nil, List.length_map, List.length_append, List.length_take, List.length_drop, List.length_replicate, List.length_set, mkG_len] <;> omega) | fail) only [push_cast, if_pos, decide_eq_true, decide_eq_false, simprocAttr, -Nat.reduceSubDiff]))
  refine callC hit ?_
  (simp -dsimp (disch := first | omega | (simp only [z1, z2, z3, z4, z5, z8, z9, z10, List.length_cons, List.length_nil, List.length_map, List.length_append, List.length_take, List.length_drop, List.length_replicate, List.length_set, mkG_len] <;> omega) | fail) only [push_cast, if_pos, decide_eq_true, decide_eq_false, z1, z2, z3, z4, z5, z8, z9, z10, simprocAttr, -Nat.reduceSubDiff]) <;> (repeat (refine (aw_draw (by kernel_rfl)).2 ?_; simp -dsimp (disch := first | omega | (simp only [z1, z2, z3, z4, z5, z8, z9, z10, List.length_cons, List.length_nil, List.length_map, List.length_append, List.length_take, List.length_drop, List.length_replicate, List.length_set, mkG_len] <;> omega) | fail) only [push_cast, if_pos, decide_eq_true, decide_eq_false, z1, z2, z3, z4, z5, z8, z9, z10, simprocAttr, -Nat.reduceSubDiff]))
  refine loop_ind (α := Nat) (fun i => i ≤ l.S.length)
    (fun i => ⟨[(2, .pt 1 0 0), (5, .ow 2 0 (P ++ (l.S.take i).flatMap lineB).length), (6, .sc (.int .i64 i))], [(1, .bx (lstC false l)), (2, .ar 1 0 ((P ++ (l.S.take i).flatMap lineB).map byteRow))], 3⟩) (fun i => l.S.length - i) 0 (Nat.zero_le _) ?_ ?_
  · simp -dsimp (disch := first | omega | (simp only [List.take_zero, List.flatMap_nil, List.append_nil, List.length_cons, List.length_nil, List.length_map, List.length_append, List.length_take, List.length_drop, List.length_replicate, List.length_set, mkG_len] <;> omega) | fail) only [push_cast, if_pos, decide_eq_true, decide_eq_false, List.take_zero, List.flatMap_nil, List.append_nil, simprocAttr, -Nat.reduceSubDiff]
  intro i hi ih
  have hlt := lines_len (S := l.S.take i) (fun s hs => hsz s (List.mem_of_mem_take hs)) w8
  rw [List.length_take] at hlt
  have y0 : (P ++ (l.S.take i).flatMap lineB).length ≤ 10000 := by rw [List.length_append]; omega
  by_cases h : i < l.S.length
  · obtain ⟨x, hx⟩ := ex_get h
    have hxs := hsz x (List.mem_of_getElem? hx)
    have y4 : P ++ (l.S.take (i + 1)).flatMap lineB = P ++ (l.S.take i).flatMap lineB ++ Lib.Hx.encode (bt x) ++ [10] := by rw [formB_step hx, lineB]; simp
    have y5 : bt (stB (Lib.Hx.encode (bt x))) = Lib.Hx.encode (bt x) := bt_stB _
    have y6 : (Lib.Hx.encode (bt x)).length ≤ 16 := by rw [Lib.Hx.encode_length, bt_len]; omega
    have hc := l3Hex x (by omega)
    have y7 : ∀ B : List UInt8, (B ++ Lib.Hx.encode (bt x) ++ [10]).map byteRow = B.map byteRow ++ (Lib.Hx.encode (bt x)).map byteRow ++ [[.sc (.int .u8 10)]] := fun B => by rw [List.map_append, List.map_append]; rfl
    (simp -dsimp (disch := first | omega | (simp only [hx, List.length_cons, List.length_nil, List.length_map, List.length_append, List.length_take, List.length_drop, List.length_replicate, List.length_set, mkG_len] <;> omega) | fail) only [push_cast, if_pos, decide_eq_true, decide_eq_false, hx, simprocAttr, -Nat.reduceSubDiff]) <;> (repeat (refine (aw_draw (by kernel_rfl)).2 ?_; simp -dsimp (disch := first | omega | (simp only [hx, List.length_cons, List.length_nil, List.length_map, List.length_append, List.length_take, List.length_drop, List.length_replicate, List.length_set, mkG_len] <;> omega) | fail) only [push_cast, if_pos, decide_eq_true, decide_eq_false, hx, simprocAttr, -Nat.reduceSubDiff]))
    refine callC hc ?_
    (simp -dsimp (disch := first | omega | (simp only [y5, List.length_cons, List.length_nil, List.length_map, List.length_append, List.length_take, List.length_drop, List.length_replicate, List.length_set, mkG_len] <;> omega) | fail) only [push_cast, if_pos, decide_eq_true, decide_eq_false, y5, simprocAttr, -Nat.reduceSubDiff]) <;> (repeat (refine (aw_draw (by kernel_rfl)).2 ?_; simp -dsimp (disch := first | omega | (simp only [y5, List.length_cons, List.length_nil, List.length_map, List.length_append, List.length_take, List.length_drop, List.length_replicate, List.length_set, mkG_len] <;> omega) | fail) only [push_cast, if_pos, decide_eq_true, decide_eq_false, y5, simprocAttr, -Nat.reduceSubDiff]))
    refine ih (i + 1) _ (by omega) h ?_
    rw [y4, y7]
    simp -dsimp (disch := first | omega | (simp only [wr_id, List.length_append, List.length_cons, List.length_nil, List.length_cons, List.length_nil, List.length_map, List.length_append, List.length_take, List.length_drop, List.length_replicate, List.length_set, mkG_len] <;> omega) | fail) only [push_cast, if_pos, decide_eq_true, decide_eq_false, wr_id, List.length_append, List.length_cons, List.length_nil, simprocAttr, -Nat.reduceSubDiff]
  · have hi : i = l.S.length := by omega
    subst hi
    rw [List.take_length] at y0 ⊢
    have e : (⟨(P ++ l.S.flatMap lineB).toArray⟩ : ByteArray) = M := hMf.symm
    (simp -dsimp (disch := first | omega | (simp only [e, List.length_cons, List.length_nil, List.length_map, List.length_append, List.length_take, List.length_drop, List.length_replicate, List.length_set, mkG_len] <;> omega) | fail) only [push_cast, if_pos, decide_eq_true, decide_eq_false, e, simprocAttr, -Nat.reduceSubDiff]) <;> (repeat (refine (aw_draw (by kernel_rfl)).2 ?_; simp -dsimp (disch := first | omega | (simp only [e, List.length_cons, List.length_nil, List.length_map, List.length_append, List.length_take, List.length_drop, List.length_replicate, List.length_set, mkG_len] <;> omega) | fail) only [push_cast, if_pos, decide_eq_true, decide_eq_false, e, simprocAttr, -Nat.reduceSubDiff]))
end Go.Proofs.YtgkncgiglmdnaaaGreatDoor.Mx

/- Pieces. -/
namespace Go.Proofs.YtgkncgiglmdnaaaGreatDoor.Mx
set_option linter.all false
open Go Go.RowKit Go.Proofs
set_option linter.unusedSimpArgs false
theorem sixteen (h : Int) (h0 : 0 ≤ h) : h.tmod 16 = h % 16 := Int.tmod_eq_emod_of_nonneg h0
def E149 : Env := { T := T0, kp := look [(0, [0]), (1, [0]), (2, []), (3, [0])] }
attribute [local push_cast] E149
set_option maxHeartbeats 1000000 in
theorem l2Ends (p : Str) (hp : p.size ≤ 100000) : Does Tryz.prog 149 [.sc (.string p)] (.sc (.bool (endsB (bt p))), []) := by
  refine does_of (E := E149) (rs := [.tmp 2]) (lent := []) tOk rfl Tryz.func149 rfl (by decide) rfl rfl (Nat.le_of_ble_eq_true rfl) (Nat.le_of_ble_eq_true rfl) ?_
  obtain ⟨M, hM⟩ : ∃ M, M = endsB (bt p) := ⟨_, rfl⟩
  rw [← hM]
  have he := ends_ext (s := p) (a := 0) (i := p.size) (Nat.le_refl _) (Nat.zero_le _)
  have hc : curB p 0 p.size = bt p := by unfold curB; rw [List.drop_zero, List.take_of_length_le (by rw [bt_len]; exact Nat.le_refl _)]
  rw [hc, ← hM, Nat.sub_zero] at he
  by_cases h8 : 8 ≤ p.size
  rotate_left
  · have hM : M = false := by rw [he]; simp [h8]
    (simp -dsimp (disch := first | omega | (simp only [h8, hM, List.length_cons, List.length_nil, List.length_map, List.length_append, List.length_take, List.length_drop, List.length_replicate, List.length_set, mkG_len] <;> omega) | fail) only [push_cast, if_pos, decide_eq_true, decide_eq_false, h8, hM, simprocAttr, -Nat.reduceSubDiff]) <;> (repeat (refine (aw_draw (by kernel_rfl)).2 ?_; simp -dsimp (disch := first | omega | (simp only [h8, hM, List.length_cons, List.length_nil, List.length_map, List.length_append, List.length_take, List.length_drop, List.length_replicate, List.length_set, mkG_len] <;> omega) | fail) only [push_cast, if_pos, decide_eq_true, decide_eq_false, h8, hM, simprocAttr, -Nat.reduceSubDiff]))
  by_cases h64 : 64 ≤ p.size
  · have hM : M = true := by rw [he]; simp [h8, h64]
    (simp -dsimp (disch := first | omega | (simp only [h8, h64, hM, List.length_cons, List.length_nil, List.length_map, List.length_append, List.length_take, List.length_drop, List.length_replicate, List.length_set, mkG_len] <;> omega) | fail) only [push_cast, if_pos, decide_eq_true, decide_eq_false, h8, h64, hM, simprocAttr, -Nat.reduceSubDiff]) <;> (repeat (refine (aw_draw (by kernel_rfl)).2 ?_; simp -dsimp (disch := first | omega | (simp only [h8, h64, hM, List.length_cons, List.length_nil, List.length_map, List.length_append, List.length_take, List.length_drop, List.length_replicate, List.length_set, mkG_len] <;> omega) | fail) only [push_cast, if_pos, decide_eq_true, decide_eq_false, h8, h64, hM, simprocAttr, -Nat.reduceSubDiff]))
  have e1 : ((p.size : Int) - 8).toNat = p.size - 8 := by omega
  have e2 : p.size - 8 + ((p.size : Int) - ((p.size : Int) - 8)).toNat = p.size := by omega
  have hz : (p.extract (p.size - 8) p.size).size ≤ 8 := by rw [ext_size (Nat.le_refl _)]; omega
  have hs := l1Sum64 (p.extract (p.size - 8) p.size) (by omega)
  have hr := hash64_r (bt (p.extract (p.size - 8) p.size))
  have ht := sixteen _ hr.1
  generalize hash64 (bt (p.extract (p.size - 8) p.size)) = H at *
  have hM : M = decide (H % 16 = 0) := by rw [he]; simp [h8, h64]
  (simp -dsimp (disch := first | omega | (simp only [h8, h64, e1, e2, wr_id, List.length_cons, List.length_nil, List.length_map, List.length_append, List.length_take, List.length_drop, List.length_replicate, List.length_set, mkG_len] <;> omega) | fail) only [push_cast, if_pos, decide_eq_true, decide_eq_false, h8, h64, e1, e2, wr_id, simprocAttr, -Nat.reduceSubDiff]) <;> (repeat (refine (aw_draw (by kernel_rfl)).2 ?_; simp -dsimp (disch := first | omega | (simp only [h8, h64, e1, e2, wr_id, List.length_cons, List.length_nil, List.length_map, List.length_append, List.length_take, List.length_drop, List.length_replicate, List.length_set, mkG_len] <;> omega) | fail) only [push_cast, if_pos, decide_eq_true, decide_eq_false, h8, h64, e1, e2, wr_id, simprocAttr, -Nat.reduceSubDiff]))
  refine callC hs ?_
  (simp -dsimp (disch := first | omega | (simp only [ht, hM, List.length_cons, List.length_nil, List.length_map, List.length_append, List.length_take, List.length_drop, List.length_replicate, List.length_set, mkG_len] <;> omega) | fail) only [push_cast, if_pos, decide_eq_true, decide_eq_false, ht, hM, simprocAttr, -Nat.reduceSubDiff]) <;> (repeat (refine (aw_draw (by kernel_rfl)).2 ?_; simp -dsimp (disch := first | omega | (simp only [ht, hM, List.length_cons, List.length_nil, List.length_map, List.length_append, List.length_take, List.length_drop, List.length_replicate, List.length_set, mkG_len] <;> omega) | fail) only [push_cast, if_pos, decide_eq_true, decide_eq_false, ht, hM, simprocAttr, -Nat.reduceSubDiff]))
def E78 : Env := { T := T0, kp := look [(0, [0]), (1, [0]), (2, [0, 3]), (3, [3]), (4, [0, 3]), (5, [0, 3, 4]), (6, [0, 3, 4, 5]), (7, [0, 3, 4, 5]), (8, [0, 3, 4, 5]), (9, [0, 3, 4, 5]), (10, [0, 3, 5]), (11, [3])] }
attribute [local push_cast] E78
set_option maxRecDepth 20000 in
set_option maxHeartbeats 1000000 in
theorem specPieces (t : Str) (ht : t.size ≤ 100000000) : Does Tryz.prog 78 [.sc (.string t)] (.sl true 1 ((piecesL t).map strR), []) := by
  refine does_of (E := E78) (rs := [.tmp 2]) (lent := []) tOk rfl Tryz.func78 rfl (by decide) rfl rfl (Nat.le_of_ble_eq_true rfl) (Nat.le_of_ble_eq_true rfl) ?_
  obtain ⟨M, hM⟩ : ∃ M, M = piecesL t := ⟨_, rfl⟩
  rw [← hM]
  unfold piecesL at hM
  by_cases hbig : 3000 < t.size
  · rw [if_pos hbig] at hM
    subst hM
    (simp -dsimp (disch := first | omega | (simp only [hbig, List.length_cons, List.length_nil, List.length_map, List.length_append, List.length_take, List.length_drop, List.length_replicate, List.length_set, mkG_len] <;> omega) | fail) only [push_cast, if_pos, decide_eq_true, decide_eq_false, hbig, simprocAttr, -Nat.reduceSubDiff]) <;> (repeat (refine (aw_draw (by kernel_rfl)).2 ?_; simp -dsimp (disch := first | omega | (simp only [hbig, List.length_cons, List.length_nil, List.length_map, List.length_append, List.length_take, List.length_drop, List.length_replicate, List.length_set, mkG_len] <;> omega) | fail) only [push_cast, if_pos, decide_eq_true, decide_eq_false, hbig, simprocAttr, -Nat.reduceSubDiff]))
  rw [if_neg hbig] at hM
  (simp -dsimp (disch := first | omega | (simp only [hbig, List.length_cons, List.length_nil, List.length_map, List.length_append, List.length_take, List.length_drop, List.length_replicate, List.length_set, mkG_len] <;> omega) | fail) only [push_cast, if_pos, decide_eq_true, decide_eq_false, hbig, simprocAttr, -Nat.reduceSubDiff]) <;> (repeat (refine (aw_draw (by kernel_rfl)).2 ?_; simp -dsimp (disch := first | omega | (simp only [hbig, List.length_cons, List.length_nil, List.length_map, List.length_append, List.length_take, List.length_drop, List.length_replicate, List.length_set, mkG_len] <;> omega) | fail) only [push_cast, if_pos, decide_eq_true, decide_eq_false, hbig, simprocAttr, -Nat.reduceSubDiff]))
  refine loop_ind (α := Nat × Nat × List Str) (fun q => q.1 ≤ t.size ∧ q.2.1 ≤ q.1 ∧ (q.1 = t.size → q.2.1 = t.size) ∧ q.2.2.length ≤ q.1 ∧ q.2.2 ++ (pcF (curB t q.2.1 q.1) ((bt t).drop q.1)).map stB = M)
    (fun q => ⟨[(0, .sc (.string t)), (3, .ow 1 0 q.2.2.length), (4, .sc (.int .i64 q.2.1)), (5, .sc (.int .i64 (q.1 + 1)))], [(1, .ar 1 0 (q.2.2.map strR))], 2⟩) (fun q => t.size - q.1) (0, 0, []) ⟨Nat.zero_le _, Nat.le_refl _, fun e => e, Nat.le_refl _, by rw [cur_nil]; simp [hM]⟩ ?_ ?_
  · simp -dsimp (disch := first | omega | (simp only [List.length_cons, List.length_nil, List.length_map, List.length_append, List.length_take, List.length_drop, List.length_replicate, List.length_set, mkG_len] <;> omega) | fail) only [push_cast, if_pos, decide_eq_true, decide_eq_false, simprocAttr, -Nat.reduceSubDiff]
  rintro ⟨i, a, acc⟩ ⟨hi, ha, hl, hac, hy⟩ ih
  replace hi : i ≤ t.size := hi
  replace ha : a ≤ i := ha
  replace hl : i = t.size → a = t.size := hl
  replace hac : acc.length ≤ i := hac
  replace hy : acc ++ (pcF (curB t a i) ((bt t).drop i)).map stB = M := hy
  by_cases h : i < t.size
  · obtain ⟨x, hx⟩ := ex_get (by rw [bt_len]; exact h : i < (bt t).length)
    rw [drop_step hx] at hy
    have hst := cur_step hx ha
    have hsz := ext_size (s := t) (a := a) (b := i + 1) h
    have hc := l2Ends (t.extract a (i + 1)) (by omega)
    rw [bt_ext, hst] at hc
    have hex : t.extract a (i + 1) = stB (curB t a i ++ [x]) := by rw [ext_cur, hst]
    have e1 : ((i : Int) + 1).toNat = i + 1 := by omega
    have e2 : a + ((i : Int) + 1 - (a : Int)).toNat = i + 1 := by omega
    (simp -dsimp (disch := first | omega | (simp only [e1, e2, List.length_cons, List.length_nil, List.length_map, List.length_append, List.length_take, List.length_drop, List.length_replicate, List.length_set, mkG_len] <;> omega) | fail) only [push_cast, if_pos, decide_eq_true, decide_eq_false, e1, e2, simprocAttr, -Nat.reduceSubDiff]) <;> (repeat (refine (aw_draw (by kernel_rfl)).2 ?_; simp -dsimp (disch := first | omega | (simp only [e1, e2, List.length_cons, List.length_nil, List.length_map, List.length_append, List.length_take, List.length_drop, List.length_replicate, List.length_set, mkG_len] <;> omega) | fail) only [push_cast, if_pos, decide_eq_true, decide_eq_false, e1, e2, simprocAttr, -Nat.reduceSubDiff]))
    refine callC hc ?_
    cases hend : endsB (curB t a i ++ [x]) with
    | true =>
      rw [pc_yes hend] at hy
      (simp -dsimp (disch := first | omega | (simp only [e1, e2, List.length_cons, List.length_nil, List.length_map, List.length_append, List.length_take, List.length_drop, List.length_replicate, List.length_set, mkG_len] <;> omega) | fail) only [push_cast, if_pos, decide_eq_true, decide_eq_false, e1, e2, simprocAttr, -Nat.reduceSubDiff]) <;> (repeat (refine (aw_draw (by kernel_rfl)).2 ?_; simp -dsimp (disch := first | omega | (simp only [e1, e2, List.length_cons, List.length_nil, List.length_map, List.length_append, List.length_take, List.length_drop, List.length_replicate, List.length_set, mkG_len] <;> omega) | fail) only [push_cast, if_pos, decide_eq_true, decide_eq_false, e1, e2, simprocAttr, -Nat.reduceSubDiff]))
      refine ih (i + 1, i + 1, acc ++ [t.extract a (i + 1)]) _ (by show t.size - (i + 1) < t.size - i; omega) ⟨h, Nat.le_refl _, fun e => e, by simp only [List.length_append, List.length_cons, List.length_nil]; omega, by rw [← hy, cur_nil, hex]; simp⟩ ?_
      simp -dsimp (disch := first | omega | (simp only [wr_id, List.map_append, List.length_append, List.length_cons, List.length_nil, List.length_cons, List.length_nil, List.length_map, List.length_append, List.length_take, List.length_drop, List.length_replicate, List.length_set, mkG_len] <;> omega) | fail) only [push_cast, if_pos, decide_eq_true, decide_eq_false, wr_id, List.map_append, List.length_append, List.length_cons, List.length_nil, simprocAttr, -Nat.reduceSubDiff]
    | false =>
      by_cases hlast : i + 1 = t.size
      · have hd : (bt t).drop (i + 1) = [] := List.drop_eq_nil_of_le (by rw [bt_len]; omega)
        rw [hd, pc_last] at hy
        have hli : ((i : Int) + 1) = t.size := by omega
        (simp -dsimp (disch := first | omega | (simp only [e1, e2, hlast, List.length_cons, List.length_nil, List.length_map, List.length_append, List.length_take, List.length_drop, List.length_replicate, List.length_set, mkG_len] <;> omega) | fail) only [push_cast, if_pos, decide_eq_true, decide_eq_false, e1, e2, hlast, simprocAttr, -Nat.reduceSubDiff]) <;> (repeat (refine (aw_draw (by kernel_rfl)).2 ?_; simp -dsimp (disch := first | omega | (simp only [e1, e2, hlast, List.length_cons, List.length_nil, List.length_map, List.length_append, List.length_take, List.length_drop, List.length_replicate, List.length_set, mkG_len] <;> omega) | fail) only [push_cast, if_pos, decide_eq_true, decide_eq_false, e1, e2, hlast, simprocAttr, -Nat.reduceSubDiff]))
        refine ih (i + 1, i + 1, acc ++ [t.extract a (i + 1)]) _ (by show t.size - (i + 1) < t.size - i; omega) ⟨h, Nat.le_refl _, fun e => e, by simp only [List.length_append, List.length_cons, List.length_nil]; omega, by rw [← hy, cur_nil, hex, hd, pc_end _ rfl]; simp⟩ ?_
        simp -dsimp (disch := first | omega | (simp only [wr_id, List.map_append, List.length_append, List.length_cons, List.length_nil, hlast, hli, List.length_cons, List.length_nil, List.length_map, List.length_append, List.length_take, List.length_drop, List.length_replicate, List.length_set, mkG_len] <;> omega) | fail) only [push_cast, if_pos, decide_eq_true, decide_eq_false, wr_id, List.map_append, List.length_append, List.length_cons, List.length_nil, hlast, hli, simprocAttr, -Nat.reduceSubDiff]
      · rw [pc_no hend, ← hst] at hy
        have hli : ¬ ((i : Int) + 1) = t.size := by omega
        (simp -dsimp (disch := first | omega | (simp only [e1, e2, hli, List.length_cons, List.length_nil, List.length_map, List.length_append, List.length_take, List.length_drop, List.length_replicate, List.length_set, mkG_len] <;> omega) | fail) only [push_cast, if_pos, decide_eq_true, decide_eq_false, e1, e2, hli, simprocAttr, -Nat.reduceSubDiff]) <;> (repeat (refine (aw_draw (by kernel_rfl)).2 ?_; simp -dsimp (disch := first | omega | (simp only [e1, e2, hli, List.length_cons, List.length_nil, List.length_map, List.length_append, List.length_take, List.length_drop, List.length_replicate, List.length_set, mkG_len] <;> omega) | fail) only [push_cast, if_pos, decide_eq_true, decide_eq_false, e1, e2, hli, simprocAttr, -Nat.reduceSubDiff]))
        refine ih (i + 1, a, acc) _ (by show t.size - (i + 1) < t.size - i; omega) ⟨h, by show a ≤ i + 1; omega, fun e => (hlast e).elim, by show acc.length ≤ i + 1; omega, hy⟩ ?_
        simp -dsimp (disch := first | omega | (simp only [wr_id, List.length_cons, List.length_nil, List.length_map, List.length_append, List.length_take, List.length_drop, List.length_replicate, List.length_set, mkG_len] <;> omega) | fail) only [push_cast, if_pos, decide_eq_true, decide_eq_false, wr_id, simprocAttr, -Nat.reduceSubDiff]
  · have hi : i = t.size := by omega
    have hd : (bt t).drop i = [] := List.drop_eq_nil_of_le (by rw [bt_len]; omega)
    have haa := hl hi
    rw [hd, haa, hi, cur_nil, pc_end _ rfl] at hy
    have hy : acc = M := by simpa using hy
    subst hy
    (simp -dsimp (disch := first | omega | (simp only [hi, List.length_cons, List.length_nil, List.length_map, List.length_append, List.length_take, List.length_drop, List.length_replicate, List.length_set, mkG_len] <;> omega) | fail) only [push_cast, if_pos, decide_eq_true, decide_eq_false, hi, simprocAttr, -Nat.reduceSubDiff]) <;> (repeat (refine (aw_draw (by kernel_rfl)).2 ?_; simp -dsimp (disch := first | omega | (simp only [hi, List.length_cons, List.length_nil, List.length_map, List.length_append, List.length_take, List.length_drop, List.length_replicate, List.length_set, mkG_len] <;> omega) | fail) only [push_cast, if_pos, decide_eq_true, decide_eq_false, hi, simprocAttr, -Nat.reduceSubDiff]))
end Go.Proofs.YtgkncgiglmdnaaaGreatDoor.Mx

/- A machine over values for Go functions, proved sound, and functions run on it: texts F1, F30, F31, F32, F33, VB, F3, F4. -/
import Derived.Test.YtkkmgjhfjhcdmaaGreatDoorFnFetchXai
import Derived.Test.YtkkmgjhfjhcdmaaGreatDoorFnFetchXaj
set_option linter.all false
namespace Go.Proofs.YtkkmgjhfjhcdmaaGreatDoor.Mx
open Go Go.RowKit Go.Proofs
theorem rF1_0 {p q : Prop} (k : q) (h : p = q := by conv => lhs; simp -dsimp (disch := first | omega | (simp only [zF, inB, LR] <;> omega) | fail) only [push_cast, zF, inB, simprocAttr, -Nat.reduceSubDiff]) : p := h.mpr k
theorem rF1_1 {p q : Prop} (k : q) (h : p = q := by conv => lhs; simp -dsimp (disch := first | omega | (simp only [zF, List.foldl_nil, LR] <;> omega) | fail) only [push_cast, zF, List.foldl_nil, simprocAttr, -Nat.reduceSubDiff]) : p := h.mpr k
theorem rF1_2 {p q : Prop} (k : q) (h : p = q := by conv => lhs; simp -dsimp (disch := first | omega | (simp only [zF, wr_id, take_step hu, List.foldl_append, List.foldl_cons, List.foldl_nil, step64, LR] <;> omega) | fail) only [push_cast, zF, wr_id, take_step hu, List.foldl_append, List.foldl_cons, List.foldl_nil, step64, simprocAttr, -Nat.reduceSubDiff]) : p := h.mpr k
theorem rF1_3 {p q : Prop} (k : q) (h : p = q := by conv => lhs; simp -dsimp (disch := first | omega | (simp only [zF, hash64, LR] <;> omega) | fail) only [push_cast, zF, hash64, simprocAttr, -Nat.reduceSubDiff]) : p := h.mpr k
theorem rF1_4 {p q : Prop} (k : q) (h : p = q := by conv => lhs; simp -dsimp (disch := first | omega | (simp only [zF, be, strN, Int.pow_zero, Int.ediv_one, LR] <;> omega) | fail) only [push_cast, zF, be, strN, Int.pow_zero, Int.ediv_one, simprocAttr, -Nat.reduceSubDiff]) : p := h.mpr k
theorem rF1_5 {p q : Prop} (k : q) (h : p = q := by conv => lhs; simp -dsimp (disch := first | omega | (simp only [zF, strN_one, strN_size, be_len, strN_app, LR] <;> omega) | fail) only [push_cast, zF, strN_one, strN_size, be_len, strN_app, simprocAttr, -Nat.reduceSubDiff]) : p := h.mpr k
theorem rF1_6 {p q : Prop} (k : q) (h : p = q := by conv => lhs; simp -dsimp (disch := first | omega | (simp only [zF, wr_id, be, LR] <;> omega) | fail) only [push_cast, zF, wr_id, be, simprocAttr, -Nat.reduceSubDiff]) : p := h.mpr k
theorem rF1_7 {p q : Prop} (k : q) (h : p = q := by conv => lhs; simp -dsimp (disch := first | omega | (simp only [zF, inB, sumS, LR] <;> omega) | fail) only [push_cast, zF, inB, sumS, simprocAttr, -Nat.reduceSubDiff]) : p := h.mpr k
theorem rF1_8 {p q : Prop} (k : q) (h : p = q := by conv => lhs; simp -dsimp (disch := first | omega | (simp only [zF, sumS, LR] <;> omega) | fail) only [push_cast, zF, sumS, simprocAttr, -Nat.reduceSubDiff]) : p := h.mpr k
theorem rF1_9 {p q : Prop} (k : q) (h : p = q := by conv => lhs; simp -dsimp (disch := first | omega | (simp only [zF, inB, sumS, em, LR] <;> omega) | fail) only [push_cast, zF, inB, sumS, em, simprocAttr, -Nat.reduceSubDiff]) : p := h.mpr k
theorem rF1_10 {p q : Prop} (k : q) (h : p = q := by conv => lhs; simp -dsimp (disch := first | omega | (simp only [zF, List.map_replicate, numR, Nat.sub_zero, LR] <;> omega) | fail) only [push_cast, zF, List.map_replicate, numR, Nat.sub_zero, simprocAttr, -Nat.reduceSubDiff]) : p := h.mpr k
theorem rF1_11 {p q : Prop} (k : q) (h : p = q := by conv => lhs; simp -dsimp (disch := first | omega | (simp only [zF, wr_id, numR, LR] <;> omega) | fail) only [push_cast, zF, wr_id, numR, simprocAttr, -Nat.reduceSubDiff]) : p := h.mpr k
theorem rF1_12 {p q : Prop} (k : q) (h : p = q := by conv => lhs; simp -dsimp (disch := first | omega | (simp only [zF, be_len, bytesOf_num, strN, LR] <;> omega) | fail) only [push_cast, zF, be_len, bytesOf_num, strN, simprocAttr, -Nat.reduceSubDiff]) : p := h.mpr k
def E56 : Env := { T := T0, kp := look [(0, [0]), (1, [0])] }
attribute [local push_cast] E56
theorem widthOk (n : Int) : Does Tryz.prog 56 [.sc (.int .i64 n)] (.sc (.bool (inB n 1 8)), []) := by
  refine does_of (E := E56) (rs := [.tmp 2]) (lent := []) tOk rfl Tryz.func56 rfl (by decide) rfl rfl (Nat.le_of_ble_eq_true rfl) (Nat.le_of_ble_eq_true rfl) ?_
  by_cases h : 1 ≤ n <;> by_cases h2 : n ≤ 8 <;> first | (exfalso; omega) | ((have zF := an h h2; (refine rF1_0 ?_) <;> first | exact nop | clear zF))
def E54 : Env := { T := T0, kp := look [(0, [0, 1, 2]), (1, [0, 1, 2])] }
attribute [local push_cast] E54
theorem l1In (a b c : Int) : Does Tryz.prog 54 [.sc (.int .i64 a), .sc (.int .i64 b), .sc (.int .i64 c)] (.sc (.bool (inB a b c)), []) := by
  refine does_of (E := E54) (rs := [.tmp 6]) (lent := []) tOk rfl Tryz.func54 rfl (by decide) rfl rfl (Nat.le_of_ble_eq_true rfl) (Nat.le_of_ble_eq_true rfl) ?_
  by_cases h : b ≤ a <;> by_cases h2 : a ≤ c <;> (have zF := an h h2; (refine rF1_0 ?_) <;> first | exact nop | clear zF)
def E53 : Env := { T := T0, kp := look [(0, [0]), (1, [0])] }
attribute [local push_cast] E53
theorem l1Width (n : Int) : Does Tryz.prog 53 [.sc (.int .i64 n)] (.sc (.bool (inB n 1 8)), []) := by
  refine does_of (E := E53) (rs := [.tmp 2]) (lent := []) tOk rfl Tryz.func53 rfl (by decide) rfl rfl (Nat.le_of_ble_eq_true rfl) (Nat.le_of_ble_eq_true rfl) ?_
  ((refine go0 ?_) <;> try exact nop)
  refine callC (l1In ..) ?_
  ((refine go0 ?_) <;> try exact nop)
def E81 : Env := { T := T0, kp := look [(0, [0]), (1, [0]), (2, [0, 3]), (3, [0, 3, 4]), (4, [0, 3, 4]), (5, [0, 3, 4]), (6, [3])] }
attribute [local push_cast] E81
theorem sum64 (t : Str) (ht : t.size < 4611686018427387904) : Does Tryz.prog 81 [.sc (.string t)] (.sc (.int .u64 (hash64 (bt t))), []) := by
  refine does_of (E := E81) (rs := [.tmp 2]) (lent := []) tOk rfl Tryz.func81 rfl (by decide) rfl rfl (Nat.le_of_ble_eq_true rfl) (Nat.le_of_ble_eq_true rfl) ?_
  ((refine go0 ?_) <;> try exact nop)
  refine loop_ind (α := Nat) (fun i => i ≤ t.size) (fun i => ⟨[(0, .sc (.string t)), (3, .sc (.int .u64 (((bt t).take i).foldl step64 14695981039346656037))), (4, .sc (.int .i64 i))], [], 1⟩) (fun i => t.size - i) 0 (Nat.zero_le _) ?_ ?_
  · ((refine rF1_1 ?_) <;> try exact nop)
  intro i hi ih
  by_cases h : i < t.size
  · obtain ⟨u, hu⟩ := ex_get (by rw [bt_len]; exact h : i < (bt t).length)
    (have zF := an h hu; (refine go0 ?_) <;> first | exact nop | clear zF)
    refine ih (i + 1) _ (by omega) h ?_
    ((refine rF1_2 ?_) <;> try exact nop)
  · have hl : (bt t).take i = bt t := List.take_of_length_le (by rw [bt_len]; omega)
    (have zF := an h hl; (refine rF1_3 ?_) <;> first | exact nop | clear zF)
def E80 : Env := { T := T0, kp := look [(0, [0]), (1, [0]), (2, [0, 3]), (3, [0, 3, 4]), (4, [0, 3, 4]), (5, [0, 3, 4]), (6, [3])] }
attribute [local push_cast] E80
theorem l1Sum64 (t : Str) (ht : t.size < 4611686018427387904) : Does Tryz.prog 80 [.sc (.string t)] (.sc (.int .u64 (hash64 (bt t))), []) := by
  refine does_of (E := E80) (rs := [.tmp 2]) (lent := []) tOk rfl Tryz.func80 rfl (by decide) rfl rfl (Nat.le_of_ble_eq_true rfl) (Nat.le_of_ble_eq_true rfl) ?_
  ((refine go0 ?_) <;> try exact nop)
  refine loop_ind (α := Nat) (fun i => i ≤ t.size) (fun i => ⟨[(0, .sc (.string t)), (3, .sc (.int .u64 (((bt t).take i).foldl step64 14695981039346656037))), (4, .sc (.int .i64 i))], [], 1⟩) (fun i => t.size - i) 0 (Nat.zero_le _) ?_ ?_
  · ((refine rF1_1 ?_) <;> try exact nop)
  intro i hi ih
  by_cases h : i < t.size
  · obtain ⟨u, hu⟩ := ex_get (by rw [bt_len]; exact h : i < (bt t).length)
    (have zF := an h hu; (refine go0 ?_) <;> first | exact nop | clear zF)
    refine ih (i + 1) _ (by omega) h ?_
    ((refine rF1_2 ?_) <;> try exact nop)
  · have hl : (bt t).take i = bt t := List.take_of_length_le (by rw [bt_len]; omega)
    (have zF := an h hl; (refine rF1_3 ?_) <;> first | exact nop | clear zF)
def E79 : Env := { T := T0, kp := look [(0, [0, 1]), (1, [0, 1]), (2, [0, 1, 5]), (3, [0, 1, 5, 6]), (4, [0, 1, 5, 6]), (5, [0, 1, 5, 6]), (6, [0, 1, 5, 6]), (7, [5])] }
attribute [local push_cast] E79
theorem l1Bytes (h w : Int) (h0 : 0 ≤ h) (h1 : h < 18446744073709551616) (w0 : 0 ≤ w) (w8 : w ≤ 8) : Does Tryz.prog 79 [.sc (.int .u64 h), .sc (.int .i64 w)] (.sc (.string (strN (be w.toNat h))), []) := by
  refine does_of (E := E79) (rs := [.tmp 4]) (lent := []) tOk rfl Tryz.func79 rfl (by decide) rfl rfl (Nat.le_of_ble_eq_true rfl) (Nat.le_of_ble_eq_true rfl) ?_
  ((refine go0 ?_) <;> try exact nop)
  refine loop_ind (α := Nat) (fun i => i ≤ w.toNat) (fun i => ⟨[(0, .sc (.int .u64 (h / 256 ^ i))), (1, .sc (.int .i64 w)), (5, .sc (.string (strN (be i h)))), (6, .sc (.int .i64 i))], [], 1⟩) (fun i => w.toNat - i) 0 (Nat.zero_le _) ?_ ?_
  · ((refine rF1_4 ?_) <;> try exact nop)
    trace_state
  intro i hi ih
  by_cases h2 : (i : Int) < w
  · have e1 : 0 ≤ h / 256 ^ i := Int.ediv_nonneg h0 (Int.pow_nonneg (by decide))
    have e2 : h / 256 ^ i < 18446744073709551616 := Int.lt_of_le_of_lt (Int.ediv_le_self _ h0) h1
    have e3 : wr .u8 ((h / 256 ^ i).tmod 256) = h / 256 ^ i % 256 := by rw [wr_u8, Int.tmod_eq_emod_of_nonneg e1]; omega
    have e4 : wr .u64 ((h / 256 ^ i).tdiv 256) = h / 256 ^ (i + 1) := by
      rw [wr_u64, Int.tdiv_eq_ediv_of_nonneg e1, Int.pow_succ, ← Int.ediv_ediv_of_nonneg (Int.pow_nonneg (by decide))]
      have := Int.ediv_nonneg e1 (by decide : (0 : Int) ≤ 256)
      have := Int.ediv_le_self 256 e1
      omega
    (have zF := an h2 (an e3 e4); (refine rF1_5 ?_) <;> first | exact nop | clear zF)
    refine ih (i + 1) _ (by omega) (by omega) ?_
    ((refine rF1_6 ?_) <;> try exact nop)
  · have : w.toNat = i := by omega
    (have zF := an h2 this; (refine go0 ?_) <;> first | exact nop | clear zF)
def E22 : Env := { T := T0, kp := look [(0, [0, 1]), (1, [0, 1]), (2, []), (3, [0, 1])] }
attribute [local push_cast] E22
theorem specSum (t : Str) (w : Int) (ht : t.size < 4611686018427387904) : Does Tryz.prog 22 [.sc (.string t), .sc (.int .i64 w)] (.sc (.string (sumS t w)), []) := by
  refine does_of (E := E22) (rs := [.tmp 4]) (lent := []) tOk rfl Tryz.func22 rfl (by decide) rfl rfl (Nat.le_of_ble_eq_true rfl) (Nat.le_of_ble_eq_true rfl) ?_
  ((refine go0 ?_) <;> try exact nop)
  refine callC (l1Width ..) ?_
  by_cases h : 1 ≤ w ∧ w ≤ 8
  · (have zF := an h and_self; (refine rF1_7 ?_) <;> first | exact nop | clear zF)
    refine callC (l1Sum64 _ ht) ?_
    ((refine go0 ?_) <;> try exact nop)
    have := hash64_r (bt t)
    refine callC (l1Bytes _ _ this.1 this.2 (by omega) h.2) ?_
    ((refine rF1_8 ?_) <;> try exact nop)
  · (have zF := h; (refine rF1_9 ?_) <;> first | exact nop | clear zF)
def E25 : Env := { T := T0, kp := look [(0, [0, 1]), (1, [0, 1]), (2, []), (3, [0, 1]), (4, [1, 5]), (5, [1, 5, 6]), (6, [1, 5, 6, 16, 17]), (7, [1, 5, 6, 16, 17]), (8, [1, 5, 6, 7, 16, 17]), (9, [1, 5, 6, 16, 17]), (10, [6])] }
attribute [local push_cast] E25
theorem implSum (t : Str) (w : Int) (ht : t.size < 4611686018427387904) : Does Tryz.prog 25 [.sc (.string t), .sc (.int .i64 w)] (.sc (.string (sumS t w)), []) := by
  by_cases h : 1 ≤ w ∧ w ≤ 8
  rotate_left
  · refine does_of (E := E25) (rs := [.tmp 4]) (lent := []) tOk rfl Tryz.func25 rfl (by decide) rfl rfl (Nat.le_of_ble_eq_true rfl) (Nat.le_of_ble_eq_true rfl) ?_
    ((refine go0 ?_) <;> try exact nop)
    refine callC (widthOk ..) ?_
    (have zF := h; (refine rF1_9 ?_) <;> first | exact nop | clear zF)
  obtain ⟨n, rfl⟩ : ∃ n : Nat, w = n := ⟨w.toNat, by omega⟩
  rw [show sumS t n = strN (be n (hash64 (bt t))) by unfold sumS; rw [if_pos h]; rfl]
  refine does_of (E := E25) (rs := [.tmp 4]) (lent := []) tOk rfl Tryz.func25 rfl (by decide) rfl rfl (Nat.le_of_ble_eq_true rfl) (Nat.le_of_ble_eq_true rfl) ?_
  ((refine go0 ?_) <;> try exact nop)
  refine callC (widthOk ..) ?_
  (have zF := an h and_self; (refine rF1_0 ?_) <;> first | exact nop | clear zF)
  refine callC (sum64 _ ht) ?_
  have hr := hash64_r (bt t)
  generalize hash64 (bt t) = H at hr ⊢
  ((refine go0 ?_) <;> try exact nop)
  refine loop_ind (α := Nat) (fun i => i ≤ n) (fun i => ⟨[(1, .sc (.int .i64 n)), (5, .sc (.int .u64 H)), (6, .ow 1 0 n), (16, .sc (.int .i64 n)), (17, .sc (.int .i64 i))], [(1, .ar 1 0 (((be n H).take i ++ List.replicate (n - i) 0).map numR))], 2⟩) (fun i => n - i) 0 (Nat.zero_le _) ?_ ?_
  · ((refine rF1_10 ?_) <;> try exact nop)
  intro i hi ih
  by_cases h2 : i < n
  · obtain ⟨x, hx⟩ := ex_get (show i < ((be n H).take i ++ List.replicate (n - i) 0).length by simp [be_len]; omega)
    have e : wr .u8 (H.fdiv (2 ^ (min (8 * ((n : Int) - 1 - i)).toNat IntKind.u64.bits))) = H / 256 ^ (n - 1 - i) % 256 := by
      rw [show (8 * ((n : Int) - 1 - i)).toNat = 8 * (n - 1 - i) by omega,
        show IntKind.u64.bits = 64 from rfl, Nat.min_eq_left (by omega), Int.pow_mul, wr_u8, Int.fdiv_eq_ediv_of_nonneg _ (Int.pow_nonneg (by decide))]
      rfl
    (have zF := an e hx; (refine rF1_11 ?_) <;> first | exact nop | clear zF)
    refine ih (i + 1) _ (by omega) h2 ?_
    have ee : (((be n H).take i ++ List.replicate (n - i) 0).map numR).set i [.sc (.int .u8 (H / 256 ^ (n - 1 - i) % 256))] = ((be n H).take (i + 1) ++ List.replicate (n - (i + 1)) 0).map numR := by
      rw [show ([.sc (.int .u8 (H / 256 ^ (n - 1 - i) % 256))] : Row) = numR (H / 256 ^ (n - 1 - i) % 256) from rfl, ← List.map_set, take_step (be_get n H i h2), List.set_append_right _ _ (by simp [be_len]; omega), show n - i = n - (i + 1) + 1 by omega, List.replicate_succ]
      simp [be_len, Nat.min_eq_left hi]
    (have zF := ee; (refine go1 ?_) <;> first | exact nop | clear zF)
  · have hn : i = n := by omega
    subst hn
    have e : (be i H).take i ++ List.replicate (i - i) 0 = be i H := by rw [List.take_of_length_le (by rw [be_len]; omega)]; simp
    (have zF := e; (refine rF1_12 ?_) <;> first | exact nop | clear zF)
end Go.Proofs.YtkkmgjhfjhcdmaaGreatDoor.Mx

namespace Go.Proofs.YtkkmgjhfjhcdmaaGreatDoor.Mx
open Go Go.RowKit Go.Proofs
theorem rF30_0 {p q : Prop} (k : q) (h : p = q := by conv => lhs; simp -dsimp (disch := first | omega | (simp only [zF, c1, LR] <;> omega) | fail) only [push_cast, zF, c1, simprocAttr, -Nat.reduceSubDiff]) : p := h.mpr k
theorem rF30_1 {p q : Prop} (k : q) (h : p = q := by conv => lhs; simp -dsimp (disch := first | omega | (simp only [zF, wr_id, strN_one, LR] <;> omega) | fail) only [push_cast, zF, wr_id, strN_one, simprocAttr, -Nat.reduceSubDiff]) : p := h.mpr k
theorem rF30_2 {p q : Prop} (k : q) (h : p = q := by conv => lhs; simp -dsimp (disch := first | omega | (simp only [zF, List.take_zero, LR] <;> omega) | fail) only [push_cast, zF, List.take_zero, simprocAttr, -Nat.reduceSubDiff]) : p := h.mpr k
theorem rF30_3 {p q : Prop} (k : q) (h : p = q := by conv => lhs; simp -dsimp (disch := first | omega | (simp only [zF, wr_id, List.length_append, List.length_cons, List.length_nil, List.map_append, List.map_cons, List.map_nil, byteRow, LR] <;> omega) | fail) only [push_cast, zF, wr_id, List.length_append, List.length_cons, List.length_nil, List.map_append, List.map_cons, List.map_nil, byteRow, simprocAttr, -Nat.reduceSubDiff]) : p := h.mpr k
theorem inB_and (a b c : Int) : inB a b c = (decide (b ≤ a) && decide (a ≤ c)) := by
  unfold inB; by_cases h : b ≤ a <;> by_cases h2 : a ≤ c <;> simp [h, h2]
def E114 : Env := { T := T0, kp := look [(0, [0, 1]), (1, [1, 2]), (2, []), (3, [1, 2]), (4, [1, 27, 28, 29]), (5, [1, 27, 28, 29]), (6, [1, 6, 27, 28, 29]), (7, []), (8, [1, 27, 28, 29]), (9, [])] }
attribute [local push_cast] E114
set_option maxRecDepth 20000 in
set_option maxHeartbeats 1000000 in
theorem listOk (l : Lst) (w : Int) (hl : l.S.length ≤ 2097152) : Does Tryz.prog 114 [.ag (lstC false l), .sc (.int .i64 w)] (.sc (.bool (okLs l w)), []) := by
  refine does_of (E := E114) (rs := [.tmp 4]) (lent := []) tOk rfl Tryz.func114 rfl (by decide) rfl rfl (Nat.le_of_ble_eq_true rfl) (Nat.le_of_ble_eq_true rfl) ?_
  obtain ⟨M, hM⟩ : ∃ M, M = okLs l w := ⟨_, rfl⟩
  rw [← hM]
  unfold okLs at hM
  ((refine go0 ?_ <;> repeat (refine dr ?_; refine go0 ?_)) <;> try exact nop)
  refine callC (widthOk ..) ?_
  by_cases c1 : inB w 1 8 = true
  rotate_left
  · have hv : M = false := by rw [hM]; simp [c1]
    (have zF := hv; (refine rF30_0 ?_ <;> repeat (refine dr ?_; refine rF30_0 ?_)) <;> first | exact nop | clear zF)
  by_cases c2 : 0 ≤ l.sz
  rotate_left
  · have hv : M = false := by rw [hM]; simp [inB_and l.sz, c2]
    (have zF := hv; (refine rF30_0 ?_ <;> repeat (refine dr ?_; refine rF30_0 ?_)) <;> first | exact nop | clear zF)
  by_cases c3 : l.sz ≤ 3000
  rotate_left
  · have hv : M = false := by rw [hM]; simp [inB_and l.sz, c3]
    (have zF := hv; (refine rF30_0 ?_ <;> repeat (refine dr ?_; refine rF30_0 ?_)) <;> first | exact nop | clear zF)
  by_cases c4 : l.S.length ≤ 375
  rotate_left
  · have hv : M = false := by rw [hM]; simp [c4]
    (have zF := hv; (refine rF30_0 ?_ <;> repeat (refine dr ?_; refine rF30_0 ?_)) <;> first | exact nop | clear zF)
  have hM : (l.S.all fun s => decide ((s.size : Int) = w)) = M := by rw [hM]; simp [inB_and l.sz, c1, c2, c3, c4]
  ((refine rF30_0 ?_ <;> repeat (refine dr ?_; refine rF30_0 ?_)) <;> try exact nop)
  refine loop_ind (α := Nat) (fun i => i ≤ l.S.length ∧ ((l.S.drop i).all fun s => decide ((s.size : Int) = w)) = M)
    (fun i => ⟨[(1, .sc (.int .i64 w)), (27, .sl false 1 (l.S.map strR)), (28, .sc (.int .i64 l.S.length)), (29, .sc (.int .i64 i))], [], 1⟩) (fun i => l.S.length - i) 0 ⟨Nat.zero_le _, hM⟩ ?_ ?_
  · ((refine go0 ?_) <;> try exact nop)
  rintro i ⟨hi, hy⟩ ih
  by_cases h : i < l.S.length
  · obtain ⟨x, hx⟩ := ex_get h
    rw [drop_step hx, List.all_cons] at hy
    by_cases e : (x.size : Int) = w
    · (have zF := an hx e; (refine go0 ?_ <;> repeat (refine dr ?_; refine go0 ?_)) <;> first | exact nop | clear zF)
      refine ih (i + 1) _ (by omega) ⟨h, by rw [← hy]; simp [e]⟩ ?_
      ((refine go1 ?_) <;> try exact nop)
    · have hy : false = M := by rw [← hy]; simp [e]
      (have zF := an hx (an e ((hy).symm)); (refine go0 ?_ <;> repeat (refine dr ?_; refine go0 ?_)) <;> first | exact nop | clear zF)
  · rw [List.drop_eq_nil_of_le (by omega)] at hy
    have hy : true = M := by rw [← hy]; rfl
    (have zF := (hy).symm; (refine go0 ?_ <;> repeat (refine dr ?_; refine go0 ?_)) <;> first | exact nop | clear zF)
def E117 : Env := { T := T0, kp := look [(0, [0, 1]), (1, [1, 2]), (2, []), (3, [1, 2]), (4, [1, 2, 5]), (5, [1, 2, 5]), (6, [1, 2, 5]), (7, []), (8, [])] }
attribute [local push_cast] E117
set_option maxRecDepth 20000 in
set_option maxHeartbeats 1000000 in
theorem l3Ok (l : Lst) (w : Int) (hl : l.S.length ≤ 2097152) : Does Tryz.prog 117 [.ag (lstC false l), .sc (.int .i64 w)] (.sc (.bool (okLs l w)), []) := by
  refine does_of (E := E117) (rs := [.tmp 4]) (lent := []) tOk rfl Tryz.func117 rfl (by decide) rfl rfl (Nat.le_of_ble_eq_true rfl) (Nat.le_of_ble_eq_true rfl) ?_
  obtain ⟨M, hM⟩ : ∃ M, M = okLs l w := ⟨_, rfl⟩
  rw [← hM]
  unfold okLs at hM
  ((refine go0 ?_ <;> repeat (refine dr ?_; refine go0 ?_)) <;> try exact nop)
  refine callC (l1Width ..) ?_
  by_cases c1 : inB w 1 8 = true
  rotate_left
  · have hv : M = false := by rw [hM]; simp [c1]
    (have zF := hv; (refine rF30_0 ?_ <;> repeat (refine dr ?_; refine rF30_0 ?_)) <;> first | exact nop | clear zF)
  ((refine rF30_0 ?_ <;> repeat (refine dr ?_; refine rF30_0 ?_)) <;> try exact nop)
  refine callC (l1In ..) ?_
  by_cases c2 : inB l.sz 0 3000 = true
  rotate_left
  · have hv : M = false := by rw [hM]; simp [c2]
    (have zF := an c2 hv; (refine go0 ?_ <;> repeat (refine dr ?_; refine go0 ?_)) <;> first | exact nop | clear zF)
  by_cases c4 : l.S.length ≤ 375
  rotate_left
  · have hv : M = false := by rw [hM]; simp [c4]
    (have zF := an c2 hv; (refine go0 ?_ <;> repeat (refine dr ?_; refine go0 ?_)) <;> first | exact nop | clear zF)
  have hM : (l.S.all fun s => decide ((s.size : Int) = w)) = M := by rw [hM]; simp [c1, c2, c4]
  (have zF := c2; (refine go0 ?_ <;> repeat (refine dr ?_; refine go0 ?_)) <;> first | exact nop | clear zF)
  refine loop_ind (α := Nat) (fun i => i ≤ l.S.length ∧ ((l.S.drop i).all fun s => decide ((s.size : Int) = w)) = M)
    (fun i => ⟨[(1, .sc (.int .i64 w)), (2, .pt 1 0 0), (5, .sc (.int .i64 i))], [(1, .bx (lstC false l))], 2⟩) (fun i => l.S.length - i) 0 ⟨Nat.zero_le _, hM⟩ ?_ ?_
  · ((refine go0 ?_) <;> try exact nop)
  rintro i ⟨hi, hy⟩ ih
  by_cases h : i < l.S.length
  · obtain ⟨x, hx⟩ := ex_get h
    rw [drop_step hx, List.all_cons] at hy
    by_cases e : (x.size : Int) = w
    · (have zF := an hx e; (refine go0 ?_ <;> repeat (refine dr ?_; refine go0 ?_)) <;> first | exact nop | clear zF)
      refine ih (i + 1) _ (by omega) ⟨h, by rw [← hy]; simp [e]⟩ ?_
      ((refine go1 ?_) <;> try exact nop)
    · have hy : false = M := by rw [← hy]; simp [e]
      (have zF := an hx (an e ((hy).symm)); (refine go0 ?_ <;> repeat (refine dr ?_; refine go0 ?_)) <;> first | exact nop | clear zF)
  · rw [List.drop_eq_nil_of_le (by omega)] at hy
    have hy : true = M := by rw [← hy]; rfl
    (have zF := (hy).symm; (refine go0 ?_ <;> repeat (refine dr ?_; refine go0 ?_)) <;> first | exact nop | clear zF)
theorem decD_len : ∀ n : Nat, (Lib.decDigits n).length ≤ n + 1 := by
  intro n
  induction n using Nat.strongRecOn with
  | _ n ih =>
    rw [Lib.decDigits]
    split
    · simp
    · have := ih (n / 10) (by omega)
      rw [List.length_append, List.length_cons, List.length_nil]; omega
def E107 : Env := { T := T0, kp := look [(0, [0]), (1, [0]), (2, [0]), (3, [0])], dp := look2 [(3, [[], [0], [0, 1], [], [3], [3, 4], [3, 4, 5], [3, 4, 5, 6], [3, 4, 5, 6, 7], [0, 1, 2, 3, 4, 5, 6, 7, 8], [0, 1, 2, 3, 4, 5, 6, 7, 8, 9]])] }
attribute [local push_cast] E107
set_option maxRecDepth 20000 in
set_option maxHeartbeats 1000000 in
theorem l3Dec_step (n : Nat) (hn : n ≤ 1000000) (ih : ∀ q : Nat, q < n → q ≤ 1000000 → Does Tryz.prog 107 [.sc (.int .i64 q)] (.sc (.string (stB (Lib.decDigits q))), [])) : Does Tryz.prog 107 [.sc (.int .i64 n)] (.sc (.string (stB (Lib.decDigits n))), []) := by
  refine does_of (E := E107) (rs := [.tmp 2]) (lent := []) tOk rfl Tryz.func107 rfl (by decide) rfl rfl (Nat.le_of_ble_eq_true rfl) (Nat.le_of_ble_eq_true rfl) ?_
  obtain ⟨R, hR⟩ : ∃ R, R = stB (Lib.decDigits n) := ⟨_, rfl⟩
  rw [← hR]
  by_cases h : n < 10
  · have e : (⟨#[UInt8.ofNat (wr .u8 (48 + (n : Int))).toNat]⟩ : ByteArray) = R := by
      rw [hR, Lib.decDigits, dif_pos h]
      have : (wr .u8 (48 + (n : Int))).toNat = 48 + n := by rw [wr_u8]; omega
      rw [this]; rfl
    clear hR ih
    (have zF := an h e; (refine go1 ?_ <;> repeat (refine dr ?_; refine go1 ?_)) <;> first | exact nop | clear zF)
  · obtain ⟨q, hq⟩ : ∃ q, q = n / 10 := ⟨_, rfl⟩
    obtain ⟨r, hr⟩ : ∃ r, r = n % 10 := ⟨_, rfl⟩
    have e1 : (n : Int).tdiv 10 = (q : Int) := by rw [hq, Int.tdiv_eq_ediv_of_nonneg (by omega)]; rfl
    have e2 : (n : Int).tmod 10 = (r : Int) := by rw [hr, Int.tmod_eq_emod_of_nonneg (by omega)]; rfl
    have hr9 : r < 10 := by omega
    have hqn : q < n := by omega
    have hc := ih q hqn (by omega)
    have hdl := decD_len q
    obtain ⟨X, hX⟩ : ∃ X, X = stB (Lib.decDigits q) := ⟨_, rfl⟩
    have hXs : X.size ≤ q + 1 := by rw [hX, stB_size]; exact hdl
    have e : X ++ strN [wr .u8 (48 + (r : Int))] = R := by
      have : (wr .u8 (48 + (r : Int))).toNat = 48 + r := by rw [wr_u8]; omega
      rw [← strN_one, this, hR, hX, Lib.decDigits.eq_def n, dif_neg h, ← hq, ← hr, ← stB_app]; rfl
    have es : (strN [wr .u8 (48 + (r : Int))]).size = 1 := by rw [strN_size]; rfl
    rw [← hX] at hc
    clear hR hX ih hq hr hdl
    (have zF := an h e1; (refine go1 ?_ <;> repeat (refine dr ?_; refine go1 ?_)) <;> first | exact nop | clear zF)
    refine callC hc ?_
    (have zF := an h (an e1 (an e2 (an e es))); (refine rF30_1 ?_ <;> repeat (refine dr ?_; refine rF30_1 ?_)) <;> first | exact nop | clear zF)
theorem l3Dec : ∀ n : Nat, n ≤ 1000000 → Does Tryz.prog 107 [.sc (.int .i64 n)] (.sc (.string (stB (Lib.decDigits n))), []) := by
  intro n
  induction n using Nat.strongRecOn with
  | _ n ih => exact fun hn => l3Dec_step n hn ih
theorem rep2 {α : Type} (a : α) : List.replicate 2 a = [a, a] := rfl
attribute [local push_cast] rep2
def E118 : Env := { T := T0, kp := look [(0, [0]), (1, [0]), (2, [0, 3]), (3, [0, 3, 4]), (4, [0, 3, 4, 5]), (5, [0, 3, 4, 5]), (6, [0, 3, 4, 5]), (7, [4])], dp := look2 [(6, [[], [], [], [], [2, 3], [2, 3, 4], [1, 2, 3, 4, 5], [], [], [], [8, 9], [8, 9, 10], [7, 8, 9, 10, 11], [1, 2, 3, 4, 5, 6, 7, 8, 9, 10, 11, 12], [0, 1, 2, 3, 4, 5, 6, 7, 8, 9, 10, 11, 12, 13], [0, 1, 2, 3, 4, 5, 6, 7, 8, 9, 10, 11, 12, 13, 14]])] }
attribute [local push_cast] E118
set_option maxRecDepth 20000 in
set_option maxHeartbeats 1000000 in
theorem l3Hex (s : Str) (hs : s.size ≤ 1000000) : Does Tryz.prog 118 [.sc (.string s)] (.sc (.string (stB (Lib.Hx.encode (bt s)))), []) := by
  refine does_of (E := E118) (rs := [.tmp 2]) (lent := []) tOk rfl Tryz.func118 rfl (by decide) rfl rfl (Nat.le_of_ble_eq_true rfl) (Nat.le_of_ble_eq_true rfl) ?_
  obtain ⟨T, hT⟩ : ∃ T : Str, T = ⟨#[48, 49, 50, 51, 52, 53, 54, 55, 56, 57, 97, 98, 99, 100, 101, 102]⟩ := ⟨_, rfl⟩
  ((refine go0 ?_ <;> repeat (refine dr ?_; refine go0 ?_)) <;> try exact nop)
  refine loop_ind (α := Nat) (fun i => i ≤ s.size)
    (fun i => ⟨[(0, .sc (.string s)), (3, .sc (.string T)), (4, .ow 1 0 (Lib.Hx.encode ((bt s).take i)).length), (5, .sc (.int .i64 i))], [(1, .ar 1 0 ((Lib.Hx.encode ((bt s).take i)).map byteRow))], 2⟩) (fun i => s.size - i) 0 (Nat.zero_le _) ?_ ?_
  · ((refine rF30_2 ?_) <;> try exact nop)
    rw [hT]
    rfl
  intro i hi ih
  have hlen : (Lib.Hx.encode ((bt s).take i)).length = 2 * i := by rw [Lib.Hx.encode_length, List.length_take, bt_len]; omega
  by_cases h : i < s.size
  · obtain ⟨u, hu⟩ := ex_get (by rw [bt_len]; exact h : i < (bt s).length)
    have hub : u.toNat < 256 := u.toNat_lt
    obtain ⟨q, hq⟩ : ∃ q, q = u.toNat / 16 := ⟨_, rfl⟩
    obtain ⟨r, hr⟩ : ∃ r, r = u.toNat % 16 := ⟨_, rfl⟩
    have e1 : wr .u8 ((u.toNat : Int).tdiv 16) = (q : Int) := by rw [wr_u8, hq, Int.tdiv_eq_ediv_of_nonneg (by omega)]; omega
    have e2 : (u.toNat : Int).tmod 16 = (r : Int) := by rw [hr, Int.tmod_eq_emod_of_nonneg (by omega)]; omega
    have g : ∀ d : Nat, d < 16 → (bt T)[d]? = some (Lib.Hx.digit d) := by
      intro d hd
      rw [hT]
      have hl : d < Lib.Hx.tab.data.toList.length := hd
      show Lib.Hx.tab.data.toList[d]? = some (Lib.Hx.tab.data.toList[d]?.getD 0)
      rw [List.getElem?_eq_getElem hl]; rfl
    have g1 := g q (by omega)
    have g2 := g r (by omega)
    have hq16 : q < 16 := by omega
    have hr16 : r < 16 := by omega
    have hTs : T.size = 16 := by rw [hT]; rfl
    (have zF := an hu (an e1 (an e2 (an g1 (an g2 hTs)))); (refine go0 ?_ <;> repeat (refine dr ?_; refine go0 ?_)) <;> first | exact nop | clear zF)
    refine ih (i + 1) _ (by omega) h ?_
    have e3 : Lib.Hx.encode ((bt s).take (i + 1)) = Lib.Hx.encode ((bt s).take i) ++ [Lib.Hx.digit q, Lib.Hx.digit r] := by
      rw [take_step hu, hq, hr]
      unfold Lib.Hx.encode
      rw [List.flatMap_append]; simp
    rw [e3]
    ((refine rF30_3 ?_) <;> try exact nop)
    trace_state
  · have hl : (bt s).take i = bt s := List.take_of_length_le (by rw [bt_len]; omega)
    rw [hl] at hlen
    (have zF := hl; (refine go0 ?_ <;> repeat (refine dr ?_; refine go0 ?_)) <;> first | exact nop | clear zF)
    rfl
end Go.Proofs.YtkkmgjhfjhcdmaaGreatDoor.Mx

namespace Go.Proofs.YtkkmgjhfjhcdmaaGreatDoor.Mx
open Go Go.RowKit Go.Proofs
theorem rF31_0 {p q : Prop} (k : q) (h : p = q := by conv => lhs; simp -dsimp (disch := first | omega | (simp only [zF, List.take_zero, List.flatMap_nil, List.append_nil, LR] <;> omega) | fail) only [push_cast, zF, List.take_zero, List.flatMap_nil, List.append_nil, simprocAttr, -Nat.reduceSubDiff]) : p := h.mpr k
theorem rF31_1 {p q : Prop} (k : q) (h : p = q := by conv => lhs; simp -dsimp (disch := first | omega | (simp only [zF, wr_id, List.length_append, List.length_cons, List.length_nil, LR] <;> omega) | fail) only [push_cast, zF, wr_id, List.length_append, List.length_cons, List.length_nil, simprocAttr, -Nat.reduceSubDiff]) : p := h.mpr k
theorem enc_ne {s : Str} (h : 1 ≤ s.size) : bt s ≠ [] := fun e => by
  have : (bt s).length = s.size := bt_len
  rw [e] at this; simp at this; omega
theorem formB_step {l : List Str} {i : Nat} {x : Str} (h : l[i]? = some x) : (l.take (i + 1)).flatMap lineB = (l.take i).flatMap lineB ++ lineB x := by
  rw [take_step h, List.flatMap_append]; simp
def E71 : Env := { T := T0, kp := look [(0, [0, 1]), (1, [1, 2]), (2, []), (3, [2]), (4, [2, 5]), (5, [5, 18, 19, 20]), (6, [5, 18, 19, 20]), (7, [5, 7, 18, 19, 20]), (8, [5, 18, 19, 20]), (9, [5])] }
attribute [local push_cast] E71
set_option maxRecDepth 20000 in
set_option maxHeartbeats 1000000 in
theorem implFormList (l : Lst) (w : Int) (hl : l.S.length ≤ 2097152) : Does Tryz.prog 71 [.ag (lstC false l), .sc (.int .i64 w)] (.sc (.string (formL l w)), []) := by
  refine does_of (E := E71) (rs := [.tmp 4]) (lent := []) tOk rfl Tryz.func71 rfl (by decide) rfl rfl (Nat.le_of_ble_eq_true rfl) (Nat.le_of_ble_eq_true rfl) ?_
  obtain ⟨M, hM⟩ : ∃ M, M = formL l w := ⟨_, rfl⟩
  rw [← hM]
  unfold formL at hM
  ((refine go0 ?_ <;> repeat (refine dr ?_; refine go0 ?_)) <;> try exact nop)
  refine callC (listOk l w hl) ?_
  cases ho : okLs l w with
  | false =>
    rw [ho, if_neg (by simp)] at hM
    have hM : M = ⟨#[]⟩ := hM
    (have zF := hM; (refine go0 ?_ <;> repeat (refine dr ?_; refine go0 ?_)) <;> first | exact nop | clear zF)
  | true =>
  rw [ho, if_pos rfl] at hM
  obtain ⟨w1, w8, s0, s3, hn, hsz⟩ := okLs_up ho
  obtain ⟨N, hN⟩ : ∃ N : Nat, l.sz = N := ⟨l.sz.toNat, by omega⟩
  have hit := itoa N (by omega)
  rw [← hN] at hit
  have hNt : l.sz.toNat = N := by omega
  have hdl := decD_len N
  obtain ⟨P, hP⟩ : ∃ P, P = sizB ++ Lib.decDigits N ++ [10] := ⟨_, rfl⟩
  have hPl : P.length ≤ 3010 := by rw [hP]; simp [sizB]; omega
  have hMf : M = stB (P ++ l.S.flatMap lineB) := by rw [hM, formB, hNt, hP]
  have z1 : (⟨#[115, 105, 122, 101, 32]⟩ : ByteArray) = stB sizB := rfl
  have z2 : (⟨#[10]⟩ : ByteArray) = stB [10] := rfl
  have z3 : stB sizB ++ stB (Lib.decDigits N) = stB (sizB ++ Lib.decDigits N) := stB_app _ _
  have z4 : stB (sizB ++ Lib.decDigits N) ++ stB [10] = stB P := by rw [stB_app, hP]
  have z5 : (stB sizB).size = 5 := rfl
  have z6 : (stB (Lib.decDigits N)).size ≤ 3001 := by rw [stB_size]; omega
  have z7 : (stB (sizB ++ Lib.decDigits N)).size ≤ 3006 := by rw [stB_size, List.length_append]; simp [sizB]; omega
  have z8 : (stB [10]).size = 1 := rfl
  have z9 : (stB P).size ≤ 3010 := by rw [stB_size]; exact hPl
  clear hM hP
  generalize stB (Lib.decDigits N) = D at *
  generalize stB (sizB ++ Lib.decDigits N) = D2 at *
  ((refine go0 ?_ <;> repeat (refine dr ?_; refine go0 ?_)) <;> try exact nop)
  refine callC hit ?_
  (have zF := an z1 (an z2 (an z3 (an z4 (an z5 z8)))); (refine go0 ?_ <;> repeat (refine dr ?_; refine go0 ?_)) <;> first | exact nop | clear zF)
  refine loop_ind (α := Nat) (fun i => i ≤ l.S.length)
    (fun i => ⟨[(5, .sc (.string (stB (P ++ (l.S.take i).flatMap lineB)))), (18, .sl false 1 (l.S.map strR)), (19, .sc (.int .i64 l.S.length)), (20, .sc (.int .i64 i))], [], 1⟩) (fun i => l.S.length - i) 0 (Nat.zero_le _) ?_ ?_
  · ((refine rF31_0 ?_) <;> try exact nop)
  intro i hi ih
  have hlt := lines_len (S := l.S.take i) (fun s hs => hsz s (List.mem_of_mem_take hs)) w8
  rw [List.length_take] at hlt
  by_cases h : i < l.S.length
  · obtain ⟨x, hx⟩ := ex_get h
    have hxs := hsz x (List.mem_of_getElem? hx)
    have y0 : (stB (P ++ (l.S.take i).flatMap lineB)).size ≤ 10000 := by rw [stB_size, List.length_append]; omega
    have y1 : stB (Lib.Hx.encode (bt x)) ++ stB [10] = stB (lineB x) := stB_app _ _
    have y2 : (stB (Lib.Hx.encode (bt x))).size ≤ 16 := by rw [stB_size, Lib.Hx.encode_length, bt_len]; omega
    have y3 : (stB (lineB x)).size ≤ 17 := by rw [stB_size, lineB_len]; omega
    have y4 : stB (P ++ (l.S.take i).flatMap lineB) ++ stB (lineB x) = stB (P ++ (l.S.take (i + 1)).flatMap lineB) := by rw [stB_app, formB_step hx, List.append_assoc]
    have hc := hexEnc (bt x) (enc_ne (by omega)) (by rw [bt_len]; omega)
    generalize stB (Lib.Hx.encode (bt x)) = H at *
    generalize stB (lineB x) = L at *
    generalize stB (P ++ (l.S.take i).flatMap lineB) = A at *
    have hx8 : (x.size ≤ 140737488355328) = True := eq_true (by omega)
    (have zF := an hx hx8; (refine go0 ?_ <;> repeat (refine dr ?_; refine go0 ?_)) <;> first | exact nop | clear zF)
    refine callC hc ?_
    (have zF := an z2 (an z8 (an y1 y4)); (refine go0 ?_ <;> repeat (refine dr ?_; refine go0 ?_)) <;> first | exact nop | clear zF)
    refine ih (i + 1) _ (by omega) h ?_
    ((refine go1 ?_) <;> try exact nop)
  · have hi : i = l.S.length := by omega
    subst hi
    rw [List.take_length, ← hMf]
    ((refine go0 ?_ <;> repeat (refine dr ?_; refine go0 ?_)) <;> try exact nop)
def E74 : Env := { T := T0, kp := look [(0, [0, 1]), (1, [1, 2]), (2, []), (3, [2]), (4, [2, 5]), (5, [2, 5, 6]), (6, [2, 5, 6]), (7, [2, 5, 6]), (8, [2, 5, 6]), (9, [5])] }
attribute [local push_cast] E74
set_option maxRecDepth 20000 in
set_option maxHeartbeats 1000000 in
theorem specFormList (l : Lst) (w : Int) (hl : l.S.length ≤ 2097152) : Does Tryz.prog 74 [.ag (lstC false l), .sc (.int .i64 w)] (.sc (.string (formL l w)), []) := by
  refine does_of (E := E74) (rs := [.tmp 4]) (lent := []) tOk rfl Tryz.func74 rfl (by decide) rfl rfl (Nat.le_of_ble_eq_true rfl) (Nat.le_of_ble_eq_true rfl) ?_
  obtain ⟨M, hM⟩ : ∃ M, M = formL l w := ⟨_, rfl⟩
  rw [← hM]
  unfold formL at hM
  ((refine go0 ?_ <;> repeat (refine dr ?_; refine go0 ?_)) <;> try exact nop)
  refine callC (l3Ok l w hl) ?_
  cases ho : okLs l w with
  | false =>
    rw [ho, if_neg (by simp)] at hM
    have hM : M = ⟨#[]⟩ := hM
    (have zF := hM; (refine go0 ?_ <;> repeat (refine dr ?_; refine go0 ?_)) <;> first | exact nop | clear zF)
  | true =>
  rw [ho, if_pos rfl] at hM
  obtain ⟨w1, w8, s0, s3, hn, hsz⟩ := okLs_up ho
  obtain ⟨N, hN⟩ : ∃ N : Nat, l.sz = N := ⟨l.sz.toNat, by omega⟩
  have hit := l3Dec N (by omega)
  rw [← hN] at hit
  have hNt : l.sz.toNat = N := by omega
  have hdl := decD_len N
  obtain ⟨P, hP⟩ : ∃ P, P = sizB ++ Lib.decDigits N ++ [10] := ⟨_, rfl⟩
  have hPl : P.length ≤ 3010 := by rw [hP]; simp [sizB]; omega
  have hMf : M = stB (P ++ l.S.flatMap lineB) := by rw [hM, formB, hNt, hP]
  have z1 : (⟨#[115, 105, 122, 101, 32]⟩ : ByteArray) = stB sizB := rfl
  have z2 : (⟨#[10]⟩ : ByteArray) = stB [10] := rfl
  have z3 : stB sizB ++ stB (Lib.decDigits N) = stB (sizB ++ Lib.decDigits N) := stB_app _ _
  have z4 : stB (sizB ++ Lib.decDigits N) ++ stB [10] = stB P := by rw [stB_app, hP]
  have z5 : (stB sizB).size = 5 := rfl
  have z6 : (stB (Lib.decDigits N)).size ≤ 3001 := by rw [stB_size]; omega
  have z7 : (stB (sizB ++ Lib.decDigits N)).size ≤ 3006 := by rw [stB_size, List.length_append]; simp [sizB]; omega
  have z8 : (stB [10]).size = 1 := rfl
  have z9 : (stB P).size = P.length := stB_size P
  have z10 : bt (stB P) = P := bt_stB P
  clear hM hP
  generalize stB (Lib.decDigits N) = D at *
  generalize stB (sizB ++ Lib.decDigits N) = D2 at *
  ((refine go0 ?_ <;> repeat (refine dr ?_; refine go0 ?_)) <;> try exact nop)
  refine callC hit ?_
  (have zF := an z1 (an z2 (an z3 (an z4 (an z5 (an z8 (an z9 z10)))))); (refine go0 ?_ <;> repeat (refine dr ?_; refine go0 ?_)) <;> first | exact nop | clear zF)
  refine loop_ind (α := Nat) (fun i => i ≤ l.S.length)
    (fun i => ⟨[(2, .pt 1 0 0), (5, .ow 2 0 (P ++ (l.S.take i).flatMap lineB).length), (6, .sc (.int .i64 i))], [(1, .bx (lstC false l)), (2, .ar 1 0 ((P ++ (l.S.take i).flatMap lineB).map byteRow))], 3⟩) (fun i => l.S.length - i) 0 (Nat.zero_le _) ?_ ?_
  · ((refine rF31_0 ?_) <;> try exact nop)
  intro i hi ih
  have hlt := lines_len (S := l.S.take i) (fun s hs => hsz s (List.mem_of_mem_take hs)) w8
  rw [List.length_take] at hlt
  have y0 : (P ++ (l.S.take i).flatMap lineB).length ≤ 10000 := by rw [List.length_append]; omega
  by_cases h : i < l.S.length
  · obtain ⟨x, hx⟩ := ex_get h
    have hxs := hsz x (List.mem_of_getElem? hx)
    have y4 : P ++ (l.S.take (i + 1)).flatMap lineB = P ++ (l.S.take i).flatMap lineB ++ Lib.Hx.encode (bt x) ++ [10] := by rw [formB_step hx, lineB]; simp
    have y5 : bt (stB (Lib.Hx.encode (bt x))) = Lib.Hx.encode (bt x) := bt_stB _
    have y6 : (Lib.Hx.encode (bt x)).length ≤ 16 := by rw [Lib.Hx.encode_length, bt_len]; omega
    have hc := l3Hex x (by omega)
    have y7 : ∀ B : List UInt8, (B ++ Lib.Hx.encode (bt x) ++ [10]).map byteRow = B.map byteRow ++ (Lib.Hx.encode (bt x)).map byteRow ++ [[.sc (.int .u8 10)]] := fun B => by rw [List.map_append, List.map_append]; rfl
    (have zF := hx; (refine go0 ?_ <;> repeat (refine dr ?_; refine go0 ?_)) <;> first | exact nop | clear zF)
    refine callC hc ?_
    (have zF := y5; (refine go0 ?_ <;> repeat (refine dr ?_; refine go0 ?_)) <;> first | exact nop | clear zF)
    refine ih (i + 1) _ (by omega) h ?_
    rw [y4, y7]
    ((refine rF31_1 ?_) <;> try exact nop)
  · have hi : i = l.S.length := by omega
    subst hi
    rw [List.take_length] at y0 ⊢
    have e : (⟨(P ++ l.S.flatMap lineB).toArray⟩ : ByteArray) = M := hMf.symm
    (have zF := e; (refine go0 ?_ <;> repeat (refine dr ?_; refine go0 ?_)) <;> first | exact nop | clear zF)
end Go.Proofs.YtkkmgjhfjhcdmaaGreatDoor.Mx

namespace Go.Proofs.YtkkmgjhfjhcdmaaGreatDoor.Mx
open Go Go.RowKit Go.Proofs
theorem rF32_0 {p q : Prop} (k : q) (h : p = q := by conv => lhs; simp -dsimp (disch := first | omega | (simp only [zF, wr_id, List.map_append, List.length_append, List.length_cons, List.length_nil, LR] <;> omega) | fail) only [push_cast, zF, wr_id, List.map_append, List.length_append, List.length_cons, List.length_nil, simprocAttr, -Nat.reduceSubDiff]) : p := h.mpr k
theorem sixteen (h : Int) (h0 : 0 ≤ h) : h.tmod 16 = h % 16 := Int.tmod_eq_emod_of_nonneg h0
def E119 : Env := { T := T0, kp := look [(0, [0]), (1, [0]), (2, []), (3, [0])] }
attribute [local push_cast] E119
set_option maxHeartbeats 1000000 in
theorem l2Ends (p : Str) (hp : p.size ≤ 100000) : Does Tryz.prog 119 [.sc (.string p)] (.sc (.bool (endsB (bt p))), []) := by
  refine does_of (E := E119) (rs := [.tmp 2]) (lent := []) tOk rfl Tryz.func119 rfl (by decide) rfl rfl (Nat.le_of_ble_eq_true rfl) (Nat.le_of_ble_eq_true rfl) ?_
  obtain ⟨M, hM⟩ : ∃ M, M = endsB (bt p) := ⟨_, rfl⟩
  rw [← hM]
  have he := ends_ext (s := p) (a := 0) (i := p.size) (Nat.le_refl _) (Nat.zero_le _)
  have hc : curB p 0 p.size = bt p := by unfold curB; rw [List.drop_zero, List.take_of_length_le (by rw [bt_len]; exact Nat.le_refl _)]
  rw [hc, ← hM, Nat.sub_zero] at he
  by_cases h8 : 8 ≤ p.size
  rotate_left
  · have hM : M = false := by rw [he]; simp [h8]
    (have zF := an h8 hM; (refine go0 ?_ <;> repeat (refine dr ?_; refine go0 ?_)) <;> first | exact nop | clear zF)
  by_cases h64 : 64 ≤ p.size
  · have hM : M = true := by rw [he]; simp [h8, h64]
    (have zF := an h8 (an h64 hM); (refine go0 ?_ <;> repeat (refine dr ?_; refine go0 ?_)) <;> first | exact nop | clear zF)
  have e1 : ((p.size : Int) - 8).toNat = p.size - 8 := by omega
  have e2 : p.size - 8 + ((p.size : Int) - ((p.size : Int) - 8)).toNat = p.size := by omega
  have hz : (p.extract (p.size - 8) p.size).size ≤ 8 := by rw [ext_size (Nat.le_refl _)]; omega
  have hs := l1Sum64 (p.extract (p.size - 8) p.size) (by omega)
  have hr := hash64_r (bt (p.extract (p.size - 8) p.size))
  have ht := sixteen _ hr.1
  generalize hash64 (bt (p.extract (p.size - 8) p.size)) = H at *
  have hM : M = decide (H % 16 = 0) := by rw [he]; simp [h8, h64]
  (have zF := an h8 (an h64 (an e1 e2)); (refine go1 ?_ <;> repeat (refine dr ?_; refine go1 ?_)) <;> first | exact nop | clear zF)
  refine callC hs ?_
  (have zF := an ht hM; (refine go0 ?_ <;> repeat (refine dr ?_; refine go0 ?_)) <;> first | exact nop | clear zF)
def E76 : Env := { T := T0, kp := look [(0, [0]), (1, [0]), (2, [0, 3]), (3, [3]), (4, [0, 3]), (5, [0, 3, 4]), (6, [0, 3, 4, 5]), (7, [0, 3, 4, 5]), (8, [0, 3, 4, 5]), (9, [0, 3, 4, 5]), (10, [0, 3, 5]), (11, [3])] }
attribute [local push_cast] E76
set_option maxRecDepth 20000 in
set_option maxHeartbeats 1000000 in
theorem specPieces (t : Str) (ht : t.size ≤ 100000000) : Does Tryz.prog 76 [.sc (.string t)] (.sl true 1 ((piecesL t).map strR), []) := by
  refine does_of (E := E76) (rs := [.tmp 2]) (lent := []) tOk rfl Tryz.func76 rfl (by decide) rfl rfl (Nat.le_of_ble_eq_true rfl) (Nat.le_of_ble_eq_true rfl) ?_
  obtain ⟨M, hM⟩ : ∃ M, M = piecesL t := ⟨_, rfl⟩
  rw [← hM]
  unfold piecesL at hM
  by_cases hbig : 3000 < t.size
  · rw [if_pos hbig] at hM
    subst hM
    (have zF := hbig; (refine go0 ?_ <;> repeat (refine dr ?_; refine go0 ?_)) <;> first | exact nop | clear zF)
  rw [if_neg hbig] at hM
  (have zF := hbig; (refine go0 ?_ <;> repeat (refine dr ?_; refine go0 ?_)) <;> first | exact nop | clear zF)
  refine loop_ind (α := Nat × Nat × List Str) (fun q => q.1 ≤ t.size ∧ q.2.1 ≤ q.1 ∧ (q.1 = t.size → q.2.1 = t.size) ∧ q.2.2.length ≤ q.1 ∧ q.2.2 ++ (pcF (curB t q.2.1 q.1) ((bt t).drop q.1)).map stB = M)
    (fun q => ⟨[(0, .sc (.string t)), (3, .ow 1 0 q.2.2.length), (4, .sc (.int .i64 q.2.1)), (5, .sc (.int .i64 (q.1 + 1)))], [(1, .ar 1 0 (q.2.2.map strR))], 2⟩) (fun q => t.size - q.1) (0, 0, []) ⟨Nat.zero_le _, Nat.le_refl _, fun e => e, Nat.le_refl _, by rw [cur_nil]; simp [hM]⟩ ?_ ?_
  · ((refine go0 ?_) <;> try exact nop)
  rintro ⟨i, a, acc⟩ ⟨hi, ha, hl, hac, hy⟩ ih
  replace hi : i ≤ t.size := hi
  replace ha : a ≤ i := ha
  replace hl : i = t.size → a = t.size := hl
  replace hac : acc.length ≤ i := hac
  replace hy : acc ++ (pcF (curB t a i) ((bt t).drop i)).map stB = M := hy
  by_cases h : i < t.size
  · obtain ⟨x, hx⟩ := ex_get (by rw [bt_len]; exact h : i < (bt t).length)
    rw [drop_step hx] at hy
    have hst := cur_step hx ha
    have hsz := ext_size (s := t) (a := a) (b := i + 1) h
    have hc := l2Ends (t.extract a (i + 1)) (by omega)
    rw [bt_ext, hst] at hc
    have hex : t.extract a (i + 1) = stB (curB t a i ++ [x]) := by rw [ext_cur, hst]
    have e1 : ((i : Int) + 1).toNat = i + 1 := by omega
    have e2 : a + ((i : Int) + 1 - (a : Int)).toNat = i + 1 := by omega
    (have zF := an e1 e2; (refine go0 ?_ <;> repeat (refine dr ?_; refine go0 ?_)) <;> first | exact nop | clear zF)
    refine callC hc ?_
    cases hend : endsB (curB t a i ++ [x]) with
    | true =>
      rw [pc_yes hend] at hy
      (have zF := an e1 e2; (refine go0 ?_ <;> repeat (refine dr ?_; refine go0 ?_)) <;> first | exact nop | clear zF)
      refine ih (i + 1, i + 1, acc ++ [t.extract a (i + 1)]) _ (by show t.size - (i + 1) < t.size - i; omega) ⟨h, Nat.le_refl _, fun e => e, by simp only [List.length_append, List.length_cons, List.length_nil]; omega, by rw [← hy, cur_nil, hex]; simp⟩ ?_
      ((refine rF32_0 ?_) <;> try exact nop)
    | false =>
      by_cases hlast : i + 1 = t.size
      · have hd : (bt t).drop (i + 1) = [] := List.drop_eq_nil_of_le (by rw [bt_len]; omega)
        rw [hd, pc_last] at hy
        have hli : ((i : Int) + 1) = t.size := by omega
        (have zF := an e1 (an e2 hlast); (refine go0 ?_ <;> repeat (refine dr ?_; refine go0 ?_)) <;> first | exact nop | clear zF)
        refine ih (i + 1, i + 1, acc ++ [t.extract a (i + 1)]) _ (by show t.size - (i + 1) < t.size - i; omega) ⟨h, Nat.le_refl _, fun e => e, by simp only [List.length_append, List.length_cons, List.length_nil]; omega, by rw [← hy, cur_nil, hex, hd, pc_end _ rfl]; simp⟩ ?_
        (have zF := an hlast hli; (refine rF32_0 ?_) <;> first | exact nop | clear zF)
      · rw [pc_no hend, ← hst] at hy
        have hli : ¬ ((i : Int) + 1) = t.size := by omega
        (have zF := an e1 (an e2 hli); (refine go0 ?_ <;> repeat (refine dr ?_; refine go0 ?_)) <;> first | exact nop | clear zF)
        refine ih (i + 1, a, acc) _ (by show t.size - (i + 1) < t.size - i; omega) ⟨h, by show a ≤ i + 1; omega, fun e => (hlast e).elim, by show acc.length ≤ i + 1; omega, hy⟩ ?_
        ((refine go1 ?_) <;> try exact nop)
  · have hi : i = t.size := by omega
    have hd : (bt t).drop i = [] := List.drop_eq_nil_of_le (by rw [bt_len]; omega)
    have haa := hl hi
    rw [hd, haa, hi, cur_nil, pc_end _ rfl] at hy
    have hy : acc = M := by simpa using hy
    subst hy
    (have zF := hi; (refine go0 ?_ <;> repeat (refine dr ?_; refine go0 ?_)) <;> first | exact nop | clear zF)
end Go.Proofs.YtkkmgjhfjhcdmaaGreatDoor.Mx

namespace Go.Proofs.YtkkmgjhfjhcdmaaGreatDoor.Mx
open Go Go.RowKit Go.Proofs
theorem rF33_0 {p q : Prop} (k : q) (h : p = q := by conv => lhs; simp -dsimp (disch := first | omega | (simp only [zF, emL, LR] <;> omega) | fail) only [push_cast, zF, emL, simprocAttr, -Nat.reduceSubDiff]) : p := h.mpr k
theorem rF33_1 {p q : Prop} (k : q) (h : p = q := by conv => lhs; simp -dsimp (disch := first | omega | (simp only [zF, List.length_map, LR] <;> omega) | fail) only [push_cast, zF, List.length_map, simprocAttr, -Nat.reduceSubDiff]) : p := h.mpr k
theorem rF33_3 {p q : Prop} (k : q) (h : p = q := by conv => lhs; simp -dsimp (disch := first | omega | (simp only [zF, List.take_zero, List.map_nil, LR] <;> omega) | fail) only [push_cast, zF, List.take_zero, List.map_nil, simprocAttr, -Nat.reduceSubDiff]) : p := h.mpr k
theorem rF33_4 {p q : Prop} (k : q) (h : p = q := by conv => lhs; simp -dsimp (disch := first | omega | (simp only [zF, wr_id, List.map_append, List.length_append, List.length_cons, List.length_nil, List.map_cons, List.map_nil, LR] <;> omega) | fail) only [push_cast, zF, wr_id, List.map_append, List.length_append, List.length_cons, List.length_nil, List.map_cons, List.map_nil, simprocAttr, -Nat.reduceSubDiff]) : p := h.mpr k
def E75 : Env := { T := T0, kp := look [(0, [0, 1]), (1, [0, 1, 4]), (2, [4]), (3, [0, 1, 4]), (4, [0, 1, 4, 5]), (5, [1, 4, 5, 6]), (6, [1, 4, 5, 6, 7]), (7, [1, 4, 5, 6, 7]), (8, [1, 4, 5, 6, 7]), (9, [4, 5])], dp := look2 [(8, [[], [0], [], [], [2, 3], [2, 3, 4], [], [2, 3, 4, 5, 6], [2, 3, 4, 5, 6, 7], [0, 1, 2, 3, 4, 5, 6, 7, 8], [0, 1, 2, 3, 4, 5, 6, 7, 8, 9], [0, 1, 2, 3, 4, 5, 6, 7, 8, 9, 10]])] }
attribute [local push_cast] E75
set_option maxRecDepth 20000 in
set_option maxHeartbeats 1000000 in
theorem specDescribe (t : Str) (w : Int) (ht : t.size ≤ 100000000) : Does Tryz.prog 75 [.sc (.string t), .sc (.int .i64 w)] (.ag (lstC true (descL t w).1), []) := by
  refine does_of (E := E75) (rs := [.cell 4 96]) (lent := []) tOk rfl Tryz.func75 rfl (by decide) rfl rfl (Nat.le_of_ble_eq_true rfl) (Nat.le_of_ble_eq_true rfl) ?_
  obtain ⟨M, hM⟩ : ∃ M, M = descL t w := ⟨_, rfl⟩
  rw [← hM]
  unfold descL at hM
  ((refine go0 ?_ <;> repeat (refine dr ?_; refine go0 ?_)) <;> try exact nop)
  refine callC (l1Width w) ?_
  cases hw : inB w 1 8 with
  | false =>
    rw [if_pos (.inr hw)] at hM
    subst hM
    ((refine rF33_0 ?_ <;> repeat (refine dr ?_; refine rF33_0 ?_)) <;> try exact nop)
  | true =>
  by_cases hbig : 3000 < t.size
  · rw [if_pos (.inl hbig)] at hM
    subst hM
    (have zF := hbig; (refine rF33_0 ?_ <;> repeat (refine dr ?_; refine rF33_0 ?_)) <;> first | exact nop | clear zF)
  rw [if_neg (by rintro (q | q); exact hbig q; rw [hw] at q; cases q)] at hM
  subst hM
  (have zF := hbig; (refine go0 ?_ <;> repeat (refine dr ?_; refine go0 ?_)) <;> first | exact nop | clear zF)
  refine callC (specPieces t ht) ?_
  have hpl := pieces_len t
  have hps := fun p (hp : p ∈ piecesL t) => pieces_sz hp
  generalize piecesL t = P at *
  ((refine go0 ?_ <;> repeat (refine dr ?_; refine go0 ?_)) <;> try exact nop)
  refine loop_ind (α := Nat) (fun i => i ≤ P.length)
    (fun i => ⟨[(1, .sc (.int .i64 w)), (4, .pt 1 0 0), (5, .pt 3 0 0), (6, .ow 5 0 P.length), (7, .sc (.int .i64 i))],
      [(1, .bx [.sc (.int .i64 0), .ow 2 0 0]), (2, .ar 1 0 []), (3, .bx [.sc (.int .i64 t.size), .ow 4 0 ((P.take i).map fun p => sumS p w).length]), (4, .ar 1 0 (((P.take i).map fun p => sumS p w).map strR)), (5, .ar 1 0 (P.map strR))], 6⟩) (fun i => P.length - i) 0 (Nat.zero_le _) ?_ ?_
  · ((refine rF33_3 ?_) <;> try exact nop)
  intro i hi ih
  have hil : ((P.take i).map fun p => sumS p w).length = i := by rw [List.length_map, List.length_take]; omega
  by_cases h : i < P.length
  · obtain ⟨x, hx⟩ := ex_get h
    have hxs := hps x (List.mem_of_getElem? hx)
    have hst : ((P.take (i + 1)).map fun p => sumS p w) = ((P.take i).map fun p => sumS p w) ++ [sumS x w] := by rw [take_step hx, List.map_append]; rfl
    (have zF := hx; (refine go0 ?_ <;> repeat (refine dr ?_; refine go0 ?_)) <;> first | exact nop | clear zF)
    refine callC (specSum x w (by omega)) ?_
    (have zF := hx; (refine go0 ?_ <;> repeat (refine dr ?_; refine go0 ?_)) <;> first | exact nop | clear zF)
    refine ih (i + 1) _ (by omega) h ?_
    rw [hst]
    ((refine rF33_4 ?_) <;> try exact nop)
  · have hi : i = P.length := by omega
    subst hi
    rw [List.take_length] at hil ⊢
    ((refine rF33_1 ?_ <;> repeat (refine dr ?_; refine rF33_1 ?_)) <;> try exact nop)
theorem desc_len {t : Str} {w : Int} : (descL t w).1.S.length ≤ 3001 := by
  unfold descL
  split
  · simp [emL]
  · simp only [List.length_map]; exact pieces_len t
theorem formL_len {l : Lst} {w : Int} : (formL l w).size ≤ 7000 := by
  unfold formL
  split
  · rename_i h
    obtain ⟨_, w8, s0, s3, hn, hsz⟩ := okLs_up h
    have h1 := lines_len hsz w8
    have h2 := decD_len l.sz.toNat
    rw [stB_size]
    unfold formB
    have h3 : sizB.length = 5 := rfl
    rw [List.length_append, List.length_append, List.length_append]
    simp only [List.length_cons, List.length_nil]
    have h4 : (Lib.decDigits l.sz.toNat).length ≤ 619 := by
      have : (Lib.decDigits l.sz.toNat).length = Lib.nDigits l.sz.toNat := Lib.decDigits_length _
      have h5 : Lib.nDigits l.sz.toNat ≤ 5 := by
        apply Classical.byContradiction
        intro hc
        have hq : ∀ k u : Nat, u < 10 ^ (k + 1) → Lib.nDigits u ≤ k + 1 := by
          intro k
          induction k with
          | zero => intro u hu; rw [Lib.nDigits_small (by simpa using hu)]; exact Nat.le_refl _
          | succ k ih =>
            intro u hu
            by_cases h : u < 10
            · rw [Lib.nDigits_small h]; omega
            · rw [Lib.nDigits_big h]
              have := ih (u / 10) (by rw [Nat.pow_succ] at hu; omega)
              omega
        have := hq 4 l.sz.toNat (by omega)
        omega
      omega
    omega
  · exact Nat.zero_le _
def E20 : Env := { T := T0, kp := look [(0, [0, 1]), (1, [0, 1]), (2, []), (3, [0, 1])] }
attribute [local push_cast] E20
set_option maxHeartbeats 1000000 in
theorem specName (t : Str) (w : Int) (ht : t.size ≤ 100000000) : Does Tryz.prog 20 [.sc (.string t), .sc (.int .i64 w)] (.sc (.string (nameS t w)), []) := by
  refine does_of (E := E20) (rs := [.tmp 4]) (lent := []) tOk rfl Tryz.func20 rfl (by decide) rfl rfl (Nat.le_of_ble_eq_true rfl) (Nat.le_of_ble_eq_true rfl) ?_
  obtain ⟨M, hM⟩ : ∃ M, M = nameS t w := ⟨_, rfl⟩
  rw [← hM]
  unfold nameS at hM
  by_cases hbig : 3000 < t.size
  · have hd : descL t w = (emL, false) := by unfold descL; rw [if_pos (.inl hbig)]
    have hM : M = ⟨#[]⟩ := by rw [hM, hd]; rfl
    (have zF := an hbig hM; (refine go0 ?_ <;> repeat (refine dr ?_; refine go0 ?_)) <;> first | exact nop | clear zF)
  have hl := desc_len (t := t) (w := w)
  have hM : M = sumS (formL (descL t w).1 w) w := by
    cases hw : inB w 1 8 with
    | true =>
      have hd : (descL t w).2 = true := by unfold descL; rw [if_neg (by rintro (q | q); exact hbig q; rw [hw] at q; cases q)]
      rw [hM, hd]; rfl
    | false =>
      have hd : (descL t w).2 = false := by unfold descL; rw [if_pos (.inr hw)]
      have : ¬ (1 ≤ w ∧ w ≤ 8) := of_decide_eq_false hw
      rw [hM, hd]
      show em = sumS _ w
      unfold sumS
      rw [if_neg this]
  have hf := formL_len (l := (descL t w).1) (w := w)
  (have zF := hbig; (refine go0 ?_ <;> repeat (refine dr ?_; refine go0 ?_)) <;> first | exact nop | clear zF)
  refine callC (specDescribe t w ht) ?_
  ((refine go0 ?_ <;> repeat (refine dr ?_; refine go0 ?_)) <;> try exact nop)
  refine callC (specFormList (descL t w).1 w (by omega)) ?_
  ((refine go0 ?_ <;> repeat (refine dr ?_; refine go0 ?_)) <;> try exact nop)
  refine callC (specSum (formL (descL t w).1 w) w (by omega)) ?_
  (have zF := hM; (refine go0 ?_ <;> repeat (refine dr ?_; refine go0 ?_)) <;> first | exact nop | clear zF)
end Go.Proofs.YtkkmgjhfjhcdmaaGreatDoor.Mx

namespace Go.Proofs.YtkkmgjhfjhcdmaaGreatDoor.Mx
open Go Go.RowKit
def okCode (c : List Int) : Prop := c.length ≤ 2000 ∧ ∀ x ∈ c, 0 ≤ x ∧ x ≤ 255
def mixK (c : List Int) (k : Int) : Int := c.getD (k.toNat % c.length) 0 * 131 + c.getD ((k.toNat * 7 + 3) % c.length) 0 * 1117 + k * 29 + k / c.length * 53
def xorK (x : Int) : Int := wr .i64 (BitVec.ofInt 64 x ^^^ BitVec.ofInt 64 (x / 64)).toNat
def pickF (c : List Int) (p n : Int) : Int := if n < 1 ∨ c = [] then 0 else if p < c.length then (c.getD p.toNat 0) % n else xorK (mixK c p) % n
theorem code_get {c : List Int} (h : okCode c) (i : Nat) : 0 ≤ c.getD i 0 ∧ c.getD i 0 ≤ 255 := by
  rw [List.getD_eq_getElem?_getD]
  cases e : c[i]? with
  | none => simp
  | some x => exact h.2 x (List.mem_of_getElem? e)
theorem xorK_nn {x : Int} (h0 : 0 ≤ x) (h1 : x < 4611686018427387904) : 0 ≤ xorK x ∧ xorK x < 4611686018427387904 := by
  unfold xorK
  obtain ⟨n, rfl⟩ := Int.eq_ofNat_of_zero_le h0
  have e : (BitVec.ofInt 64 (n : Int) ^^^ BitVec.ofInt 64 ((n : Int) / 64)).toNat = n ^^^ (n / 64) := by
    rw [BitVec.toNat_xor]
    have h2 : ((n : Int) / 64) = ((n / 64 : Nat) : Int) := by simp
    rw [h2, BitVec.ofInt_natCast, BitVec.ofInt_natCast, BitVec.toNat_ofNat, BitVec.toNat_ofNat, Nat.mod_eq_of_lt (by omega), Nat.mod_eq_of_lt (by omega)]
  rw [e]
  have hl : n ^^^ (n / 64) < 2 ^ 62 := Nat.xor_lt_two_pow (by omega) (by omega)
  have : wr .i64 ((n ^^^ (n / 64) : Nat) : Int) = ((n ^^^ (n / 64) : Nat) : Int) := by
    rw [wr_id (by omega) (by omega)]
  omega
theorem pickF_nn {c : List Int} (h : okCode c) (p n : Int) (hp0 : 0 ≤ p) (hp : p ≤ 1000000) : 0 ≤ pickF c p n ∧ (1 ≤ n → pickF c p n < n) := by
  unfold pickF
  split
  · exact ⟨by omega, by omega⟩
  rename_i h1
  have hn : 1 ≤ n := by omega
  have : ∀ x : Int, 0 ≤ x % n ∧ x % n < n := fun x => ⟨Int.emod_nonneg _ (by omega), Int.emod_lt_of_pos _ (by omega)⟩
  split
  · exact ⟨(this _).1, fun _ => (this _).2⟩
  · exact ⟨(this _).1, fun _ => (this _).2⟩
end Go.Proofs.YtkkmgjhfjhcdmaaGreatDoor.Mx

namespace Go.Proofs.YtkkmgjhfjhcdmaaGreatDoor.Mx
open Go Go.RowKit Go.Proofs
theorem rF3_0 {p q : Prop} (k : q) (h : p = q := by conv => lhs; simp -dsimp (disch := first | omega | (simp only [zF, c1, LR] <;> omega) | fail) only [push_cast, zF, c1, simprocAttr, -Nat.reduceSubDiff]) : p := h.mpr k
theorem rF3_1 {p q : Prop} (k : q) (h : p = q := by conv => lhs; simp -dsimp (disch := first | omega | (simp only [zF, List.take_zero, bytes, LR] <;> omega) | fail) only [push_cast, zF, List.take_zero, bytes, simprocAttr, -Nat.reduceSubDiff]) : p := h.mpr k
theorem rF3_2 {p q : Prop} (k : q) (h : p = q := by conv => lhs; simp -dsimp (disch := first | omega | (simp only [zF, wr_id, Int.add_zero, LR] <;> omega) | fail) only [push_cast, zF, wr_id, Int.add_zero, simprocAttr, -Nat.reduceSubDiff]) : p := h.mpr k
theorem rF3_3 {p q : Prop} (k : q) (h : p = q := by conv => lhs; simp -dsimp (disch := first | omega | (simp only [zF, List.take_of_length_le, LR] <;> omega) | fail) only [push_cast, zF, List.take_of_length_le, simprocAttr, -Nat.reduceSubDiff]) : p := h.mpr k
theorem rF3_4 {p q : Prop} (k : q) (h : p = q := by conv => lhs; simp -dsimp (disch := first | omega | (simp only [zF, em, LR] <;> omega) | fail) only [push_cast, zF, em, simprocAttr, -Nat.reduceSubDiff]) : p := h.mpr k
def E57 : Env := { T := T0, kp := look [(0, [0, 1]), (1, [0, 1]), (2, [0, 1, 7, 8, 9]), (3, [0, 1, 7, 8, 9]), (4, [0, 1, 5, 6, 7, 8, 9]), (5, []), (6, [0, 1, 7, 8, 9]), (7, [])] }
attribute [local push_cast] E57
theorem ascending (l : List Str) (w : Int) (hl : l.length ≤ 2097152) : Does Tryz.prog 57 [.sl false 1 (l.map strR), .sc (.int .i64 w)] (.sc (.bool (ascF w none l)), []) := by
  refine does_of (E := E57) (rs := [.tmp 4]) (lent := []) tOk rfl Tryz.func57 rfl (by decide) rfl rfl (Nat.le_of_ble_eq_true rfl) (Nat.le_of_ble_eq_true rfl) ?_
  generalize hM : ascF w none l = M
  ((refine go0 ?_) <;> try exact nop)
  refine loop_ind (α := Nat) (fun i => i ≤ l.length ∧ ascF w (bif i == 0 then none else l[i - 1]?) (l.drop i) = M) (fun i => ⟨[(0, .sl false 1 (l.map strR)), (1, .sc (.int .i64 w)), (7, .sl false 1 (l.map strR)), (8, .sc (.int .i64 l.length)), (9, .sc (.int .i64 i))], [], 1⟩) (fun i => l.length - i) 0 ⟨Nat.zero_le _, hM⟩ ?_ ?_
  · ((refine go0 ?_) <;> try exact nop)
  rintro i ⟨hi, hy⟩ ih
  by_cases h : i < l.length
  · obtain ⟨s, hx⟩ := ex_get h
    rw [drop_step hx, ascF] at hy
    have hs : ∀ P, (bif i + 1 == 0 then none else l[i + 1 - 1]?) = P → P = some s := fun P e => by rw [← e, show (i + 1 == 0) = false by simp, cond_false, Nat.add_sub_cancel, hx]
    by_cases e1 : (s.size : Int) = w
    rotate_left
    · rw [show decide ((s.size : Int) = w) = false by simp [e1], Bool.false_and, Bool.false_and] at hy
      (have zF := an hx (an e1 ((hy).symm)); (refine go0 ?_) <;> first | exact nop | clear zF)
    rw [show decide ((s.size : Int) = w) = true by simp [e1], Bool.true_and] at hy
    by_cases e2 : i = 0
    · subst e2
      rw [show aft (bif 0 == 0 then none else l[0 - 1]?) s = true from rfl, Bool.true_and] at hy
      (have zF := an hx e1; (refine go0 ?_) <;> first | exact nop | clear zF)
      refine ih 1 _ (by omega) ⟨h, by rw [hs _ rfl]; exact hy⟩ ?_
      ((refine go1 ?_) <;> try exact nop)
    · obtain ⟨q, hq⟩ := ex_get (show i - 1 < l.length by omega)
      rw [show (bif i == 0 then none else l[i - 1]?) = some q by rw [show (i == 0) = false by simp [e2]]; exact hq, show aft (some q) s = lts q s from rfl] at hy
      have e3 : ((i : Int) - 1).toNat = i - 1 := by omega
      cases e4 : lts q s with
      | false =>
        rw [e4, Bool.false_and] at hy
        (have zF := an hx (an hq (an e1 (an e3 (an e4 ((hy).symm))))); (refine go1 ?_) <;> first | exact nop | clear zF)
      | true =>
        rw [e4, Bool.true_and] at hy
        (have zF := an hx (an hq (an e1 (an e3 e4))); (refine go1 ?_) <;> first | exact nop | clear zF)
        refine ih (i + 1) _ (by omega) ⟨h, by rw [hs _ rfl]; exact hy⟩ ?_
        ((refine go1 ?_) <;> try exact nop)
  · rw [List.drop_eq_nil_of_le (by omega), ascF] at hy
    (have zF := (hy).symm; (refine go0 ?_) <;> first | exact nop | clear zF)
def E55 : Env := { T := T0, kp := look [(0, [0]), (1, [1]), (2, [1, 3]), (3, [1, 3, 4]), (4, [1, 3, 4]), (5, [1, 3, 4]), (6, [3])] }
attribute [local push_cast] E55
theorem l4Bytes (s : Store) (hs : okStore s) : Does Tryz.prog 55 [.ag (storeC false s)] (.sc (.int .i64 (bytes s.I)), []) := by
  refine does_of (E := E55) (rs := [.tmp 2]) (lent := []) tOk rfl Tryz.func55 rfl (by decide) rfl rfl (Nat.le_of_ble_eq_true rfl) (Nat.le_of_ble_eq_true rfl) ?_
  have hl := hs.1.1
  have hb := bytes_le hs.1
  ((refine go0 ?_) <;> try exact nop)
  refine loop_ind (α := Nat) (fun i => i ≤ s.I.length) (fun i => ⟨[(1, .pt 1 0 0), (3, .sc (.int .i64 (bytes (s.I.take i)))), (4, .sc (.int .i64 i))], [(1, .bx (storeC false s))], 2⟩) (fun i => s.I.length - i) 0 (Nat.zero_le _) ?_ ?_
  · ((refine rF3_1 ?_) <;> try exact nop)
  intro i hi ih
  by_cases h : i < s.I.length
  · obtain ⟨x, hx⟩ := ex_get h
    have h1 := bytes_app (s.I.take (i + 1)) (s.I.drop (i + 1))
    have h2 := bytes_app (s.I.take i) [x]
    rw [← take_step hx, bytes, bytes] at h2
    rw [List.take_append_drop] at h1
    have h3 := bytes_nn (s.I.drop (i + 1))
    have h4 := bytes_nn (s.I.take i)
    (have zF := hx; (refine go1 ?_) <;> first | exact nop | clear zF)
    refine ih (i + 1) _ (by omega) h ?_
    rw [h2]
    ((refine rF3_2 ?_) <;> try exact nop)
  · ((refine rF3_3 ?_) <;> try exact nop)
def E66 : Env := { T := T0, kp := look [(0, [0]), (1, [1, 2]), (2, [1, 2]), (3, [1, 2])] }
attribute [local push_cast] E66
theorem l4Copy (s : Store) (hs : okStore s) : Does Tryz.prog 66 [.ag (storeC false s)] (.ag (storeC true s), []) := by
  refine does_of (E := E66) (rs := [.cell 2 26]) (lent := []) tOk rfl Tryz.func66 rfl (by decide) rfl rfl (Nat.le_of_ble_eq_true rfl) (Nat.le_of_ble_eq_true rfl) ?_
  have hl := hs.1.1
  have hp := hs.2.1
  ((refine go0 ?_ <;> repeat (refine dr ?_; refine go0 ?_)) <;> try exact nop)
  rfl
def E64 : Env := { T := T0, kp := look [(0, [0]), (1, [1, 2]), (2, [1, 2]), (3, [1, 2])] }
attribute [local push_cast] E64
theorem copyStore (s : Store) (hs : okStore s) : Does Tryz.prog 64 [.ag (storeC false s)] (.ag (storeC true s), []) := by
  refine does_of (E := E64) (rs := [.cell 2 26]) (lent := []) tOk rfl Tryz.func64 rfl (by decide) rfl rfl (Nat.le_of_ble_eq_true rfl) (Nat.le_of_ble_eq_true rfl) ?_
  have hl := hs.1.1
  have hp := hs.2.1
  ((refine go0 ?_ <;> repeat (refine dr ?_; refine go0 ?_)) <;> try exact nop)
  rfl
def E108 : Env := { T := T0, kp := look [(0, [0, 1]), (1, [0, 1]), (2, [0, 1, 5]), (3, [0, 1, 5]), (4, [0, 1, 5]), (5, []), (6, [])] }
attribute [local push_cast] E108
theorem l2In (l : List Str) (s : Str) (hl : l.length ≤ 2097152) : Does Tryz.prog 108 [.sl false 1 (l.map strR), .sc (.string s)] (.sc (.bool (inL l s)), []) := by
  refine does_of (E := E108) (rs := [.tmp 4]) (lent := []) tOk rfl Tryz.func108 rfl (by decide) rfl rfl (Nat.le_of_ble_eq_true rfl) (Nat.le_of_ble_eq_true rfl) ?_
  generalize hM : inL l s = M
  ((refine go0 ?_) <;> try exact nop)
  refine loop_ind (α := Nat) (fun i => i ≤ l.length ∧ inL (l.drop i) s = M) (fun i => ⟨[(0, .sl false 1 (l.map strR)), (1, .sc (.string s)), (5, .sc (.int .i64 i))], [], 1⟩) (fun i => l.length - i) 0 ⟨Nat.zero_le _, hM⟩ ?_ ?_
  · ((refine go0 ?_) <;> try exact nop)
  rintro i ⟨hi, hy⟩ ih
  by_cases h : i < l.length
  · obtain ⟨x, hx⟩ := ex_get h
    rw [drop_step hx] at hy
    by_cases e : x = s
    · have hy : true = M := by rw [← hy]; simp [inL, e]
      (have zF := an hx (an e ((hy).symm)); (refine go0 ?_) <;> first | exact nop | clear zF)
    · (have zF := an hx e; (refine go0 ?_) <;> first | exact nop | clear zF)
      refine ih (i + 1) _ (by omega) ⟨h, by rw [← hy]; simp [inL, e]⟩ ?_
      ((refine go1 ?_) <;> try exact nop)
  · rw [List.drop_eq_nil_of_le (by omega)] at hy
    have hy : false = M := by rw [← hy]; rfl
    (have zF := (hy).symm; (refine go0 ?_) <;> first | exact nop | clear zF)
def E9 : Env := { T := T0, kp := look [(0, [0]), (1, [1]), (2, []), (3, [1]), (4, [1, 3]), (5, [1, 3, 4]), (6, [1, 3, 4]), (7, [1, 3, 4]), (8, [1, 3, 4, 5]), (9, [1, 3, 4, 5, 6]), (10, []), (11, [1, 4, 6]), (12, [1]), (13, [1, 7]), (14, [1, 7]), (15, [1, 7]), (16, []), (17, [1])], dp := look2 [(15, [[], [0], [], [0, 1, 2], [0, 1, 2, 3], [0, 1, 2, 3, 4], [], [6], [0, 1, 2, 3, 4, 5, 6, 7], [0, 1, 2, 3, 4, 5, 6, 7, 8], [0, 1, 2, 3, 4, 5, 6, 7, 8, 9], [0, 1, 2, 3, 4, 5, 6, 7, 8, 9, 10], [0, 1, 2, 3, 4, 5, 6, 7, 8, 9, 10, 11], [0, 1, 2, 3, 4, 5, 6, 7, 8, 9, 10, 11, 12], [0, 1, 2, 3, 4, 5, 6, 7, 8, 9, 10, 11, 12, 13], [0, 1, 2, 3, 4, 5, 6, 7, 8, 9, 10, 11, 12], [0, 1, 2, 3, 4, 5, 6, 7, 8, 9, 10, 11, 12, 15], [0, 1, 2, 3, 4, 5, 6, 7, 8, 9, 10, 11, 12, 13, 14, 15, 16], [0, 1, 2, 3, 4, 5, 6, 7, 8, 9, 10, 11, 12, 13, 14, 15, 16, 17], [0, 1, 2, 3, 4, 5, 6, 7, 8, 9, 10, 11, 12], [0, 1, 2, 3, 4, 5, 6, 7, 8, 9, 10, 11, 12, 19], [0, 1, 2, 3, 4, 5, 6, 7, 8, 9, 10, 11, 12], [0, 1, 2, 3, 4, 5, 6, 7, 8, 9, 10, 11, 12, 19, 20, 21], [0, 1, 2, 3, 4, 5, 6, 7, 8, 9, 10, 11, 12, 19, 20, 21, 22], [0, 1, 2, 3, 4, 5, 6, 7, 8, 9, 10, 11, 12, 13, 14, 15, 16, 17, 18, 19, 20, 21, 22, 23], [0, 1, 2, 3, 4, 5, 6, 7, 8, 9, 10, 11, 12, 13, 14, 15, 16, 17, 18, 19, 20, 21, 22, 23, 24], [0, 1, 2, 3, 4, 5, 6, 7, 8, 9, 10, 11, 12, 13, 14, 15, 16, 17, 18, 19, 20, 21, 22, 23, 24, 25]]), (17, [[], [0], [], [2], [0, 1, 2, 3], [0, 1, 2, 3, 4]])] }
attribute [local push_cast] E9
set_option maxHeartbeats 1000000 in
theorem specValidStore (s : Store) (hs : okStore s) : Does Tryz.prog 9 [.ag (storeC false s)] (.sc (.bool (validSt s)), []) := by
  refine does_of (E := E9) (rs := [.tmp 2]) (lent := []) tOk rfl Tryz.func9 rfl (by decide) rfl rfl (Nat.le_of_ble_eq_true rfl) (Nat.le_of_ble_eq_true rfl) ?_
  have hl := hs.1.1
  have hp := hs.2.1
  ((refine go0 ?_ <;> repeat (refine dr ?_; refine go0 ?_)) <;> try exact nop)
  refine callC (l1Width ..) ?_
  by_cases c1 : inB s.w 1 8 = true
  rotate_left
  · have hv : validSt s = false := by simp [validSt, c1]
    (have zF := hv; (refine rF3_0 ?_ <;> repeat (refine dr ?_; refine rF3_0 ?_)) <;> first | exact nop | clear zF)
  ((refine rF3_0 ?_ <;> repeat (refine dr ?_; refine rF3_0 ?_)) <;> try exact nop)
  refine callC (l1In ..) ?_
  by_cases c2 : inB s.r 0 60000 = true
  rotate_left
  · have hv : validSt s = false := by simp [validSt, c2]
    (have zF := an c2 hv; (refine go0 ?_ <;> repeat (refine dr ?_; refine go0 ?_)) <;> first | exact nop | clear zF)
  by_cases c3 : s.I.length ≤ 1000
  rotate_left
  · have hv : validSt s = false := by simp [validSt, c3]
    (have zF := an c2 hv; (refine go0 ?_ <;> repeat (refine dr ?_; refine go0 ?_)) <;> first | exact nop | clear zF)
  by_cases c4 : s.P.length ≤ 10
  rotate_left
  · have hv : validSt s = false := by simp [validSt, c4]
    (have zF := an c2 hv; (refine go0 ?_ <;> repeat (refine dr ?_; refine go0 ?_)) <;> first | exact nop | clear zF)
  obtain ⟨R, hR⟩ : ∃ R, R = (ascF s.w none s.P && decide (bytes s.I ≤ s.r)) := ⟨_, rfl⟩
  obtain ⟨M, hM⟩ : ∃ M, M = validSt s := ⟨_, rfl⟩
  rw [← hM]
  have hv : (itF s.w none s.I && R) = M := by
    simp only [hM, validSt, c1, c2, c3, c4, hR, decide_true, Bool.true_and]
    cases itF s.w none s.I <;> simp
  clear hM
  (have zF := c2; (refine go0 ?_ <;> repeat (refine dr ?_; refine go0 ?_)) <;> first | exact nop | clear zF)
  refine loop_ind (α := Nat × Option Str) (fun p => p.1 ≤ s.I.length ∧ (p.2 = none ↔ p.1 = 0) ∧ (itF s.w p.2 (s.I.drop p.1) && R) = M) (fun p => ⟨[(1, .pt 1 0 0), (3, .sc (.string (p.2.getD em))), (4, .sc (.int .i64 p.1))], [(1, .bx (storeC false s))], 2⟩) (fun p => s.I.length - p.1) (0, none) ⟨Nat.zero_le _, by simp, hv⟩ ?_ ?_
  · ((refine rF3_4 ?_) <;> try exact nop)
  rintro ⟨i, p⟩ ⟨hi, hp0, hy⟩ ih
  dsimp only at hi hp0 hy
  by_cases h : i < s.I.length
  · obtain ⟨x, hx⟩ := ex_get h
    have hxb : x.t.size ≤ 2097152 := hs.1.2 x (List.mem_of_getElem? hx)
    rw [drop_step hx, itF] at hy
    (have zF := hx; (refine go0 ?_) <;> first | exact nop | clear zF)
    refine callC (specSum _ _ (by omega)) ?_
    ((refine go0 ?_) <;> try exact nop)
    refine callC (l1In ..) ?_
    cases d1 : inB x.t.size 1 7000 with
    | false =>
      rw [d1, Bool.false_and, Bool.false_and, Bool.false_and, Bool.false_and] at hy
      (have zF := (hy).symm; (refine go0 ?_ <;> repeat (refine dr ?_; refine go0 ?_)) <;> first | exact nop | clear zF)
    | true =>
    rw [d1, Bool.true_and] at hy
    ((refine go0 ?_) <;> try exact nop)
    refine callC (l1In ..) ?_
    cases d2 : inB x.u 0 1000000 with
    | false =>
      rw [d2, Bool.false_and, Bool.false_and, Bool.false_and] at hy
      (have zF := (hy).symm; (refine go0 ?_ <;> repeat (refine dr ?_; refine go0 ?_)) <;> first | exact nop | clear zF)
    | true =>
    rw [d2, Bool.true_and] at hy
    cases p with
    | none =>
      obtain rfl := hp0.1 rfl
      rw [show aft none (sumS x.t s.w) = true from rfl, Bool.true_and] at hy
      ((refine go0 ?_) <;> try exact nop)
      refine ih (1, some (sumS x.t s.w)) _ (by simp; omega) ⟨h, by simp, hy⟩ ?_
      ((refine go1 ?_) <;> try exact nop)
    | some q =>
      have hi0 : i ≠ 0 := fun e => by have := hp0.2 e; cases this
      cases d3 : lts q (sumS x.t s.w) with
      | false =>
        rw [show aft (some q) (sumS x.t s.w) = lts q (sumS x.t s.w) from rfl, d3, Bool.false_and, Bool.false_and] at hy
        (have zF := an d3 ((hy).symm); (refine go0 ?_ <;> repeat (refine dr ?_; refine go0 ?_)) <;> first | exact nop | clear zF)
      | true =>
        rw [show aft (some q) (sumS x.t s.w) = lts q (sumS x.t s.w) from rfl, d3, Bool.true_and] at hy
        (have zF := d3; (refine go0 ?_) <;> first | exact nop | clear zF)
        refine ih (i + 1, some (sumS x.t s.w)) _ (by simp; omega) ⟨h, by simp, hy⟩ ?_
        ((refine go1 ?_) <;> try exact nop)
  rw [List.drop_eq_nil_of_le (by omega), itF, Bool.true_and] at hy
  obtain ⟨B, hB⟩ : ∃ B, B = decide (bytes s.I ≤ s.r) := ⟨_, rfl⟩
  rw [← hB] at hR
  rw [hR] at hy
  ((refine go0 ?_) <;> try exact nop)
  refine loop_ind (α := Nat) (fun i => i ≤ s.P.length ∧ (ascF s.w (bif i == 0 then none else s.P[i - 1]?) (s.P.drop i) && B) = M) (fun i => ⟨[(1, .pt 1 0 0), (7, .sc (.int .i64 i))], [(1, .bx (storeC false s))], 2⟩) (fun i => s.P.length - i) 0 ⟨Nat.zero_le _, hy⟩ ?_ ?_
  · ((refine go0 ?_) <;> try exact nop)
  clear hy hi hp0 ih h
  rintro i ⟨hi, hy⟩ ih
  by_cases h : i < s.P.length
  · obtain ⟨x, hx⟩ := ex_get h
    rw [drop_step hx, ascF] at hy
    have hs : ∀ P, (bif i + 1 == 0 then none else s.P[i + 1 - 1]?) = P → P = some x := fun P e => by rw [← e, show (i + 1 == 0) = false by simp, cond_false, Nat.add_sub_cancel, hx]
    by_cases e1 : (x.size : Int) = s.w
    rotate_left
    · rw [show decide ((x.size : Int) = s.w) = false by simp [e1], Bool.false_and, Bool.false_and, Bool.false_and] at hy
      (have zF := an hx (an e1 ((hy).symm)); (refine go0 ?_ <;> repeat (refine dr ?_; refine go0 ?_)) <;> first | exact nop | clear zF)
    rw [show decide ((x.size : Int) = s.w) = true by simp [e1], Bool.true_and] at hy
    by_cases e2 : i = 0
    · subst e2
      rw [show aft (bif 0 == 0 then none else s.P[0 - 1]?) x = true from rfl, Bool.true_and] at hy
      (have zF := an hx e1; (refine go0 ?_ <;> repeat (refine dr ?_; refine go0 ?_)) <;> first | exact nop | clear zF)
      refine ih 1 _ (by omega) ⟨h, by rw [hs _ rfl]; exact hy⟩ ?_
      ((refine go1 ?_) <;> try exact nop)
    · obtain ⟨q, hq⟩ := ex_get (show i - 1 < s.P.length by omega)
      rw [show (bif i == 0 then none else s.P[i - 1]?) = some q by rw [show (i == 0) = false by simp [e2]]; exact hq, show aft (some q) x = lts q x from rfl] at hy
      have e3 : ((i : Int) - 1).toNat = i - 1 := by omega
      cases e4 : lts q x with
      | false =>
        rw [e4, Bool.false_and, Bool.false_and] at hy
        (have zF := an hx (an hq (an e1 (an e3 (an e4 ((hy).symm))))); (refine go1 ?_ <;> repeat (refine dr ?_; refine go1 ?_)) <;> first | exact nop | clear zF)
      | true =>
        rw [e4, Bool.true_and] at hy
        (have zF := an hx (an hq (an e1 (an e3 e4))); (refine go1 ?_ <;> repeat (refine dr ?_; refine go1 ?_)) <;> first | exact nop | clear zF)
        refine ih (i + 1) _ (by omega) ⟨h, by rw [hs _ rfl]; exact hy⟩ ?_
        ((refine go1 ?_) <;> try exact nop)
  · rw [List.drop_eq_nil_of_le (by omega), ascF, Bool.true_and] at hy
    ((refine go0 ?_ <;> repeat (refine dr ?_; refine go0 ?_)) <;> try exact nop)
    refine callC (l4Bytes s hs) ?_
    (have zF := an ((hy).symm) hB; (refine go0 ?_ <;> repeat (refine dr ?_; refine go0 ?_)) <;> first | exact nop | clear zF)
end Go.Proofs.YtkkmgjhfjhcdmaaGreatDoor.Mx

namespace Go.Proofs.YtkkmgjhfjhcdmaaGreatDoor.Mx
open Go Go.RowKit Go.Proofs
theorem rF4_0 {p q : Prop} (k : q) (h : p = q := by conv => lhs; simp -dsimp (disch := first | omega | (simp only [zF, c1, LR] <;> omega) | fail) only [push_cast, zF, c1, simprocAttr, -Nat.reduceSubDiff]) : p := h.mpr k
theorem rF4_1 {p q : Prop} (k : q) (h : p = q := by conv => lhs; simp -dsimp (disch := first | omega | (simp only [zF, List.take_of_length_le, LR] <;> omega) | fail) only [push_cast, zF, List.take_of_length_le, simprocAttr, -Nat.reduceSubDiff]) : p := h.mpr k
theorem rF4_2 {p q : Prop} (k : q) (h : p = q := by conv => lhs; simp -dsimp (disch := first | omega | (simp only [zF, em, List.take_zero, bytes, LR] <;> omega) | fail) only [push_cast, zF, em, List.take_zero, bytes, simprocAttr, -Nat.reduceSubDiff]) : p := h.mpr k
theorem rF4_3 {p q : Prop} (k : q) (h : p = q := by conv => lhs; simp -dsimp (disch := first | omega | (simp only [zF, wr_id, List.take_zero, bytes, LR] <;> omega) | fail) only [push_cast, zF, wr_id, List.take_zero, bytes, simprocAttr, -Nat.reduceSubDiff]) : p := h.mpr k
theorem inB_def (a b c : Int) : inB a b c = (decide (b ≤ a) && decide (a ≤ c)) := by
  unfold inB; by_cases h : b ≤ a <;> by_cases h2 : a ≤ c <;> simp [h, h2]
def E10 : Env := { T := T0, kp := look [(0, [0]), (1, [1]), (2, []), (3, [1]), (4, [1, 3]), (5, [1, 3, 4]), (6, [1, 3, 4, 43, 44, 45]), (7, [1, 3, 4, 43, 44, 45]), (8, [1, 3, 4, 5, 6, 43, 44, 45]), (9, [1, 3, 4, 5, 6, 7, 43, 44, 45]), (10, []), (11, [1, 3, 6, 7, 43, 44, 45]), (12, [1, 3, 4, 6, 43, 44, 45]), (13, [1, 3, 4, 43, 44, 45]), (14, [1, 3])] }
attribute [local push_cast] E10
set_option maxHeartbeats 1000000 in
theorem implValidStore (s : Store) (hs : okStore s) : Does Tryz.prog 10 [.ag (storeC false s)] (.sc (.bool (validSt s)), []) := by
  refine does_of (E := E10) (rs := [.tmp 2]) (lent := []) tOk rfl Tryz.func10 rfl (by decide) rfl rfl (Nat.le_of_ble_eq_true rfl) (Nat.le_of_ble_eq_true rfl) ?_
  have hl := hs.1.1
  have hp := hs.2.1
  have hbb := bytes_le hs.1
  ((refine go0 ?_ <;> repeat (refine dr ?_; refine go0 ?_)) <;> try exact nop)
  refine callC (widthOk ..) ?_
  by_cases c1 : inB s.w 1 8 = true
  rotate_left
  · have hv : validSt s = false := by simp [validSt, c1]
    (have zF := hv; (refine rF4_0 ?_ <;> repeat (refine dr ?_; refine rF4_0 ?_)) <;> first | exact nop | clear zF)
  by_cases c2 : 0 ≤ s.r
  rotate_left
  · have hv : validSt s = false := by simp [validSt, inB_def, c2]
    (have zF := hv; (refine rF4_0 ?_ <;> repeat (refine dr ?_; refine rF4_0 ?_)) <;> first | exact nop | clear zF)
  by_cases c2b : s.r ≤ 60000
  rotate_left
  · have hv : validSt s = false := by simp [validSt, inB_def, c2b]
    (have zF := hv; (refine rF4_0 ?_ <;> repeat (refine dr ?_; refine rF4_0 ?_)) <;> first | exact nop | clear zF)
  by_cases c3 : s.I.length ≤ 1000
  rotate_left
  · have hv : validSt s = false := by simp [validSt, c3]
    (have zF := hv; (refine rF4_0 ?_ <;> repeat (refine dr ?_; refine rF4_0 ?_)) <;> first | exact nop | clear zF)
  by_cases c4 : s.P.length ≤ 10
  rotate_left
  · have hv : validSt s = false := by simp [validSt, c4]
    (have zF := hv; (refine rF4_0 ?_ <;> repeat (refine dr ?_; refine rF4_0 ?_)) <;> first | exact nop | clear zF)
  ((refine rF4_0 ?_ <;> repeat (refine dr ?_; refine rF4_0 ?_)) <;> try exact nop)
  refine callC (ascending _ _ hp) ?_
  cases c5 : ascF s.w none s.P with
  | false =>
    have hv : validSt s = false := by simp [validSt, c5]
    (have zF := hv; (refine go0 ?_ <;> repeat (refine dr ?_; refine go0 ?_)) <;> first | exact nop | clear zF)
  | true =>
  obtain ⟨R, hR⟩ : ∃ R, R = decide (bytes s.I ≤ s.r) := ⟨_, rfl⟩
  obtain ⟨M, hM⟩ : ∃ M, M = validSt s := ⟨_, rfl⟩
  rw [← hM]
  have hv : (itF s.w none s.I && R) = M := by
    simp only [hM, validSt, inB_def s.r, c1, c2, c2b, c3, c4, c5, hR, decide_true, Bool.true_and]
  clear hM
  ((refine go0 ?_ <;> repeat (refine dr ?_; refine go0 ?_)) <;> try exact nop)
  refine loop_ind (α := Nat × Option Str) (fun p => p.1 ≤ s.I.length ∧ (p.2 = none ↔ p.1 = 0) ∧ (itF s.w p.2 (s.I.drop p.1) && R) = M) (fun p => ⟨[(1, .pt 1 0 0), (3, .sc (.int .i64 (bytes (s.I.take p.1)))), (4, .sc (.string (p.2.getD em))), (43, .sl false 2 (s.I.map (itemC false))), (44, .sc (.int .i64 s.I.length)), (45, .sc (.int .i64 p.1))], [(1, .bx (storeC false s))], 2⟩) (fun p => s.I.length - p.1) (0, none) ⟨Nat.zero_le _, by simp, hv⟩ ?_ ?_
  · ((refine rF4_2 ?_) <;> try exact nop)
  rintro ⟨i, p⟩ ⟨hi, hp0, hy⟩ ih
  dsimp only at hi hp0 hy
  by_cases h : i < s.I.length
  · obtain ⟨x, hx⟩ := ex_get h
    have hxb : x.t.size ≤ 2097152 := hs.1.2 x (List.mem_of_getElem? hx)
    have h1 := bytes_app (s.I.take (i + 1)) (s.I.drop (i + 1))
    have h2 := bytes_app (s.I.take i) [x]
    rw [← take_step hx, bytes, bytes] at h2
    rw [List.take_append_drop] at h1
    have h3 := bytes_nn (s.I.drop (i + 1))
    have h4 := bytes_nn (s.I.take i)
    rw [Int.add_zero] at h2
    rw [drop_step hx, itF] at hy
    (have zF := hx; (refine go0 ?_) <;> first | exact nop | clear zF)
    refine callC (implSum _ _ (by omega)) ?_
    ((refine go0 ?_) <;> try exact nop)
    cases d1 : inB x.t.size 1 7000 with
    | false =>
      rw [d1, Bool.false_and, Bool.false_and, Bool.false_and, Bool.false_and] at hy
      by_cases d1a : 1 ≤ (x.t.size : Int)
      · have d1b : ¬ (x.t.size : Int) ≤ 7000 := fun e => by rw [inB_def, decide_eq_true d1a, decide_eq_true e] at d1; cases d1
        (have zF := (hy).symm; (refine go0 ?_ <;> repeat (refine dr ?_; refine go0 ?_)) <;> first | exact nop | clear zF)
      · (have zF := (hy).symm; (refine go0 ?_ <;> repeat (refine dr ?_; refine go0 ?_)) <;> first | exact nop | clear zF)
    | true =>
    have d1a : 1 ≤ (x.t.size : Int) ∧ (x.t.size : Int) ≤ 7000 := by unfold inB at d1; exact of_decide_eq_true d1
    rw [d1, Bool.true_and] at hy
    cases d2 : inB x.u 0 1000000 with
    | false =>
      rw [d2, Bool.false_and, Bool.false_and, Bool.false_and] at hy
      by_cases d1a : 0 ≤ x.u
      · have d1b : ¬ x.u ≤ 1000000 := fun e => by rw [inB_def, decide_eq_true d1a, decide_eq_true e] at d2; cases d2
        (have zF := (hy).symm; (refine go0 ?_ <;> repeat (refine dr ?_; refine go0 ?_)) <;> first | exact nop | clear zF)
      · (have zF := (hy).symm; (refine go0 ?_ <;> repeat (refine dr ?_; refine go0 ?_)) <;> first | exact nop | clear zF)
    | true =>
    have d2a : 0 ≤ x.u ∧ x.u ≤ 1000000 := by unfold inB at d2; exact of_decide_eq_true d2
    rw [d2, Bool.true_and] at hy
    cases p with
    | none =>
      obtain rfl := hp0.1 rfl
      rw [show aft none (sumS x.t s.w) = true from rfl, Bool.true_and] at hy
      ((refine go0 ?_) <;> try exact nop)
      refine ih (1, some (sumS x.t s.w)) _ (by simp; omega) ⟨h, by simp, hy⟩ ?_
      simp only [] at h2 ⊢
      rw [h2]
      ((refine rF4_3 ?_) <;> try exact nop)
    | some q =>
      have hi0 : i ≠ 0 := fun e => by have := hp0.2 e; cases this
      cases d3 : lts q (sumS x.t s.w) with
      | false =>
        rw [show aft (some q) (sumS x.t s.w) = lts q (sumS x.t s.w) from rfl, d3, Bool.false_and, Bool.false_and] at hy
        (have zF := an d3 ((hy).symm); (refine go0 ?_ <;> repeat (refine dr ?_; refine go0 ?_)) <;> first | exact nop | clear zF)
      | true =>
        rw [show aft (some q) (sumS x.t s.w) = lts q (sumS x.t s.w) from rfl, d3, Bool.true_and] at hy
        (have zF := d3; (refine go0 ?_) <;> first | exact nop | clear zF)
        refine ih (i + 1, some (sumS x.t s.w)) _ (by simp; omega) ⟨h, by simp, hy⟩ ?_
        simp only []
        rw [h2]
        ((refine go1 ?_) <;> try exact nop)
  rw [List.drop_eq_nil_of_le (by omega), itF, Bool.true_and] at hy
  (have zF := an ((hy).symm) hR; (refine rF4_1 ?_ <;> repeat (refine dr ?_; refine rF4_1 ?_)) <;> first | exact nop | clear zF)
end Go.Proofs.YtkkmgjhfjhcdmaaGreatDoor.Mx

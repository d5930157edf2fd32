/- A machine over values for Go functions, proved sound, and functions run on it: texts F41, F42, F43, F45. -/
import Derived.Test.YtgkncgiglmdnaaaGreatDoorSaveXah
import Derived.Test.YtgkncgiglmdnaaaGreatDoorSaveXai
import Derived.Test.YtgkncgiglmdnaaaGreatDoorSaveXaj
import Derived.Test.YtgkncgiglmdnaaaGreatDoorSaveXak
import Derived.Test.YtgkncgiglmdnaaaGreatDoorSaveXal
/- Lists' texts read again: the reference. -/
namespace Go.Proofs.YtgkncgiglmdnaaaGreatDoor.Mx
set_option linter.all false
open Go Go.RowKit Go.Proofs
set_option linter.unusedSimpArgs false
theorem digI_r (b : UInt8) : -87 ≤ digI b ∧ digI b ≤ 255 := by
  unfold digI
  have := b.toNat_lt
  split <;> omega
def E97 : Env := { T := T0, kp := look [(0, [0]), (1, [0]), (2, [0, 3]), (3, [0, 3, 4]), (4, [0, 3, 4]), (5, [0, 3, 4]), (6, [3])], dp := look2 [(5, [[], [], [], [1, 2], [1, 2, 3], [1, 2, 3, 4], [], [], [7], [6, 7, 8], [1, 2, 3, 4, 6, 7, 8, 9], [1, 2, 3, 4, 5, 6, 7, 8, 9, 10], [1, 2, 3, 4, 5, 6, 7, 8, 9, 10, 11], [1, 2, 3, 4, 5, 6, 7, 8, 9, 10, 11, 12], [0, 1, 2, 3, 4, 5, 6, 7, 8, 9, 10, 11, 12, 13], [0, 1, 2, 3, 4, 5, 6, 7, 8, 9, 10, 11, 12, 13, 14]])] }
attribute [local push_cast] E97
set_option maxRecDepth 20000 in
set_option maxHeartbeats 1000000 in
theorem l3Bytes (t : Str) (ht : t.size ≤ 100000000) : Does Tryz.prog 97 [.sc (.string t)] (.sc (.string (stB (unhex (bt t)))), []) := by
  refine does_of (E := E97) (rs := [.tmp 2]) (lent := []) tOk rfl Tryz.func97 rfl (by decide) rfl rfl (Nat.le_of_ble_eq_true rfl) (Nat.le_of_ble_eq_true rfl) ?_
  obtain ⟨M, hM⟩ : ∃ M, M = unhex (bt t) := ⟨_, rfl⟩
  rw [← hM]
  (simp -dsimp (disch := first | omega | (simp only [List.length_cons, List.length_nil, List.length_map, List.length_append, List.length_take, List.length_drop, List.length_replicate, List.length_set, mkG_len] <;> omega) | fail) only [push_cast, if_pos, decide_eq_true, decide_eq_false, simprocAttr, -Nat.reduceSubDiff]) <;> (repeat (refine (aw_draw (by kernel_rfl)).2 ?_; simp -dsimp (disch := first | omega | (simp only [List.length_cons, List.length_nil, List.length_map, List.length_append, List.length_take, List.length_drop, List.length_replicate, List.length_set, mkG_len] <;> omega) | fail) only [push_cast, if_pos, decide_eq_true, decide_eq_false, simprocAttr, -Nat.reduceSubDiff]))
  refine loop_ind (α := Nat × List UInt8) (fun q => q.1 ≤ t.size ∧ q.2.length ≤ q.1 ∧ q.2 ++ unhex ((bt t).drop q.1) = M)
    (fun q => ⟨[(0, .sc (.string t)), (3, .ow 1 0 q.2.length), (4, .sc (.int .i64 q.1))], [(1, .ar 1 0 (q.2.map byteRow))], 2⟩) (fun q => t.size - q.1) (0, []) ⟨Nat.zero_le _, Nat.le_refl _, by simp [hM]⟩ ?_ ?_
  · simp -dsimp (disch := first | omega | (simp only [List.length_cons, List.length_nil, List.length_map, List.length_append, List.length_take, List.length_drop, List.length_replicate, List.length_set, mkG_len] <;> omega) | fail) only [push_cast, if_pos, decide_eq_true, decide_eq_false, simprocAttr, -Nat.reduceSubDiff]
  rintro ⟨i, B⟩ ⟨hi, hB, hy⟩ ih
  replace hi : i ≤ t.size := hi
  replace hB : B.length ≤ i := hB
  replace hy : B ++ unhex ((bt t).drop i) = M := hy
  by_cases h : i + 1 < t.size
  · obtain ⟨x, hx⟩ := ex_get (by rw [bt_len]; omega : i < (bt t).length)
    obtain ⟨y, hz⟩ := ex_get (by rw [bt_len]; exact h : i + 1 < (bt t).length)
    rw [drop_step hx, drop_step hz, unhex] at hy
    have rx := digI_r x
    have ry := digI_r y
    have e1 : ((i : Int) + 1).toNat = i + 1 := by omega
    have e4 := byteRow_of (v := (16 * digI x + digI y) % 256) (by omega) (by omega)
    have e6 : (i : Int) + 1 + 1 = i + 2 := by omega
    have e5 : wr .u8 (16 * digI x + digI y) = (16 * digI x + digI y) % 256 := wr_u8 _
    (simp -dsimp (disch := first | omega | (simp only [h, hx, hz, e1, wr_id, List.length_cons, List.length_nil, List.length_map, List.length_append, List.length_take, List.length_drop, List.length_replicate, List.length_set, mkG_len] <;> omega) | fail) only [push_cast, if_pos, decide_eq_true, decide_eq_false, h, hx, hz, e1, wr_id, simprocAttr, -Nat.reduceSubDiff]) <;> (repeat (refine (aw_draw (by kernel_rfl)).2 ?_; simp -dsimp (disch := first | omega | (simp only [h, hx, hz, e1, wr_id, List.length_cons, List.length_nil, List.length_map, List.length_append, List.length_take, List.length_drop, List.length_replicate, List.length_set, mkG_len] <;> omega) | fail) only [push_cast, if_pos, decide_eq_true, decide_eq_false, h, hx, hz, e1, wr_id, simprocAttr, -Nat.reduceSubDiff]))
    refine callC (l3Digit x) ?_
    (simp -dsimp (disch := first | omega | (simp only [h, hx, hz, e1, wr_id, List.length_cons, List.length_nil, List.length_map, List.length_append, List.length_take, List.length_drop, List.length_replicate, List.length_set, mkG_len] <;> omega) | fail) only [push_cast, if_pos, decide_eq_true, decide_eq_false, h, hx, hz, e1, wr_id, simprocAttr, -Nat.reduceSubDiff]) <;> (repeat (refine (aw_draw (by kernel_rfl)).2 ?_; simp -dsimp (disch := first | omega | (simp only [h, hx, hz, e1, wr_id, List.length_cons, List.length_nil, List.length_map, List.length_append, List.length_take, List.length_drop, List.length_replicate, List.length_set, mkG_len] <;> omega) | fail) only [push_cast, if_pos, decide_eq_true, decide_eq_false, h, hx, hz, e1, wr_id, simprocAttr, -Nat.reduceSubDiff]))
    refine callC (l3Digit y) ?_
    (simp -dsimp (disch := first | omega | (simp only [h, hx, hz, e1, e5, wr_id, List.length_cons, List.length_nil, List.length_map, List.length_append, List.length_take, List.length_drop, List.length_replicate, List.length_set, mkG_len] <;> omega) | fail) only [push_cast, if_pos, decide_eq_true, decide_eq_false, h, hx, hz, e1, e5, wr_id, simprocAttr, -Nat.reduceSubDiff]) <;> (repeat (refine (aw_draw (by kernel_rfl)).2 ?_; simp -dsimp (disch := first | omega | (simp only [h, hx, hz, e1, e5, wr_id, List.length_cons, List.length_nil, List.length_map, List.length_append, List.length_take, List.length_drop, List.length_replicate, List.length_set, mkG_len] <;> omega) | fail) only [push_cast, if_pos, decide_eq_true, decide_eq_false, h, hx, hz, e1, e5, wr_id, simprocAttr, -Nat.reduceSubDiff]))
    refine ih (i + 2, B ++ [UInt8.ofNat ((16 * digI x + digI y) % 256).toNat]) _ (by show t.size - (i + 2) < t.size - i; omega) ⟨by show i + 2 ≤ t.size; omega, by simp only [List.length_append, List.length_cons, List.length_nil]; omega, by rw [← hy]; simp⟩ ?_
    simp -dsimp (disch := first | omega | (simp only [wr_id, List.map_append, List.length_append, List.length_cons, List.length_nil, List.map_cons, List.map_nil, ← e4, e6, List.length_cons, List.length_nil, List.length_map, List.length_append, List.length_take, List.length_drop, List.length_replicate, List.length_set, mkG_len] <;> omega) | fail) only [push_cast, if_pos, decide_eq_true, decide_eq_false, wr_id, List.map_append, List.length_append, List.length_cons, List.length_nil, List.map_cons, List.map_nil, ← e4, e6, simprocAttr, -Nat.reduceSubDiff]
  · have hd : unhex ((bt t).drop i) = [] := by
      have hl : ((bt t).drop i).length ≤ 1 := by rw [List.length_drop, bt_len]; omega
      match (bt t).drop i, hl with
      | [], _ => rfl
      | [_], _ => rfl
      | _ :: _ :: _, hl => simp at hl
    rw [hd, List.append_nil] at hy
    subst hy
    (simp -dsimp (disch := first | omega | (simp only [h, wr_id, List.length_cons, List.length_nil, List.length_map, List.length_append, List.length_take, List.length_drop, List.length_replicate, List.length_set, mkG_len] <;> omega) | fail) only [push_cast, if_pos, decide_eq_true, decide_eq_false, h, wr_id, simprocAttr, -Nat.reduceSubDiff]) <;> (repeat (refine (aw_draw (by kernel_rfl)).2 ?_; simp -dsimp (disch := first | omega | (simp only [h, wr_id, List.length_cons, List.length_nil, List.length_map, List.length_append, List.length_take, List.length_drop, List.length_replicate, List.length_set, mkG_len] <;> omega) | fail) only [push_cast, if_pos, decide_eq_true, decide_eq_false, h, wr_id, simprocAttr, -Nat.reduceSubDiff]))
    rfl
theorem cut_head {c : UInt8} : ∀ (r cur : List UInt8), ∃ q L, cutF c [] cur r = (cur ++ q) :: L
  | [], cur => ⟨[], [], by simp [cutF]⟩
  | x :: r, cur => by
    rw [cutF]
    split
    · exact ⟨[], cutF c [] [] r, by rw [cutF_acc]; simp⟩
    · obtain ⟨q, L, h⟩ := cut_head r (cur ++ [x])
      exact ⟨x :: q, L, by rw [h]; simp⟩
theorem cut_size {s : List UInt8} (h : s.take 5 = sizB) : ∃ q L, cutL 10 s = (sizB ++ q) :: L := by
  have e : s = sizB ++ s.drop 5 := by rw [← h, List.take_append_drop]
  unfold cutL
  rw [e, cutF_skip (by decide), List.nil_append]
  exact cut_head _ _
theorem sizS_iff {t : Str} (h : 6 ≤ t.size) : t.extract 0 5 = ⟨#[115, 105, 122, 101, 32]⟩ ↔ (bt t).take 5 = sizB := by
  rw [ext_cur, show curB t 0 5 = (bt t).take 5 by unfold curB; rw [List.drop_zero]]
  have e : (⟨#[115, 105, 122, 101, 32]⟩ : ByteArray) = stB sizB := rfl
  rw [e]
  exact ⟨fun q => by have := congrArg bt q; rwa [bt_stB, bt_stB] at this, fun q => by rw [q]⟩
def E25 : Env := { T := T0, kp := look [(0, [0, 1]), (1, [0, 1, 4]), (2, [4]), (3, [0, 1, 4]), (4, [0, 1, 4, 6]), (5, [0, 1, 4, 6, 7]), (6, [0, 1, 4, 6, 7, 8]), (7, [0, 1, 4, 6, 7, 8]), (8, [0, 1, 4, 6, 7, 8]), (9, [0, 1, 4, 7]), (10, [4]), (11, [4, 7])], dp := look2 [(8, [[], [0], [], [], [2, 3], [2, 3, 4], [2, 3, 4, 5], [2, 3, 4, 5, 6], [0, 1, 2, 3, 4, 5, 6, 7], [0, 1, 2, 3, 4, 5, 6, 7, 8], [0, 1, 2, 3, 4, 5, 6, 7, 8, 9]])] }
attribute [local push_cast] E25
set_option maxRecDepth 20000 in
set_option maxHeartbeats 1000000 in
theorem specReadList (t : Str) (w : Int) (ht : t.size ≤ 100000000) : Does Tryz.prog 25 [.sc (.string t), .sc (.int .i64 w)] (.tu [.ag (lstC true (readL t w).1), .sc (.bool (readL t w).2)], []) := by
  refine does_of (E := E25) (rs := [.cell 4 27, .tmp 5]) (lent := []) tOk rfl Tryz.func25 rfl (by decide) rfl rfl (Nat.le_of_ble_eq_true rfl) (Nat.le_of_ble_eq_true rfl) ?_
  obtain ⟨M, hM⟩ : ∃ M, M = readL t w := ⟨_, rfl⟩
  rw [← hM]
  by_cases h1 : t.size < 6
  · rw [read_out (.inl h1)] at hM
    subst hM
    (simp -dsimp (disch := first | omega | (simp only [h1, List.length_cons, List.length_nil, List.length_map, List.length_append, List.length_take, List.length_drop, List.length_replicate, List.length_set, mkG_len] <;> omega) | fail) only [push_cast, if_pos, decide_eq_true, decide_eq_false, h1, simprocAttr, -Nat.reduceSubDiff]) <;> (repeat (refine (aw_draw (by kernel_rfl)).2 ?_; simp -dsimp (disch := first | omega | (simp only [h1, List.length_cons, List.length_nil, List.length_map, List.length_append, List.length_take, List.length_drop, List.length_replicate, List.length_set, mkG_len] <;> omega) | fail) only [push_cast, if_pos, decide_eq_true, decide_eq_false, h1, simprocAttr, -Nat.reduceSubDiff]))
  by_cases h2 : 7000 < t.size
  · rw [read_out (.inr (.inl h2))] at hM
    subst hM
    (simp -dsimp (disch := first | omega | (simp only [h1, h2, List.length_cons, List.length_nil, List.length_map, List.length_append, List.length_take, List.length_drop, List.length_replicate, List.length_set, mkG_len] <;> omega) | fail) only [push_cast, if_pos, decide_eq_true, decide_eq_false, h1, h2, simprocAttr, -Nat.reduceSubDiff]) <;> (repeat (refine (aw_draw (by kernel_rfl)).2 ?_; simp -dsimp (disch := first | omega | (simp only [h1, h2, List.length_cons, List.length_nil, List.length_map, List.length_append, List.length_take, List.length_drop, List.length_replicate, List.length_set, mkG_len] <;> omega) | fail) only [push_cast, if_pos, decide_eq_true, decide_eq_false, h1, h2, simprocAttr, -Nat.reduceSubDiff]))
  have hsz := sizS_iff (t := t) (by omega)
  by_cases h3 : t.extract 0 5 = ⟨#[115, 105, 122, 101, 32]⟩
  rotate_left
  · rw [read_out (.inr (.inr fun q => h3 (hsz.2 q)))] at hM
    subst hM
    (simp -dsimp (disch := first | omega | (simp only [h1, h2, h3, List.length_cons, List.length_nil, List.length_map, List.length_append, List.length_take, List.length_drop, List.length_replicate, List.length_set, mkG_len] <;> omega) | fail) only [push_cast, if_pos, decide_eq_true, decide_eq_false, h1, h2, h3, simprocAttr, -Nat.reduceSubDiff]) <;> (repeat (refine (aw_draw (by kernel_rfl)).2 ?_; simp -dsimp (disch := first | omega | (simp only [h1, h2, h3, List.length_cons, List.length_nil, List.length_map, List.length_append, List.length_take, List.length_drop, List.length_replicate, List.length_set, mkG_len] <;> omega) | fail) only [push_cast, if_pos, decide_eq_true, decide_eq_false, h1, h2, h3, simprocAttr, -Nat.reduceSubDiff]))
  obtain ⟨q, L, hc⟩ := cut_size (hsz.1 h3)
  rw [read_spec (by omega)] at hM
  obtain ⟨P, hP⟩ : ∃ P, P = parseL t := ⟨_, rfl⟩
  rw [← hP] at hM
  unfold parseL at hP
  have hLn := cutF_len 10 (bt t) [] []
  have hLs := cutF_sz 10 (bt t) [] [] t.size (by simp) (by rw [bt_len]; simp)
  rw [show cutF 10 [] [] (bt t) = cutL 10 (bt t) from rfl, hc] at hLn hLs
  rw [bt_len, List.length_cons, List.length_nil] at hLn
  rw [hc] at hP
  have hP : P = ⟨numB q, (L.take (L.length - 1)).map fun x => stB (unhex x)⟩ := by
    rw [hP]
    have e1 : ((((sizB ++ q) :: L).getD 0 []).drop 5) = q := List.drop_left' rfl
    rw [e1]
    simp
  have hq0 := hLs _ (List.mem_cons_self ..)
  have hq5 : (sizB ++ q).length = 5 + q.length := by rw [List.length_append]; rfl
  (simp -dsimp (disch := first | omega | (simp only [h1, h2, h3, List.length_cons, List.length_nil, List.length_map, List.length_append, List.length_take, List.length_drop, List.length_replicate, List.length_set, mkG_len] <;> omega) | fail) only [push_cast, if_pos, decide_eq_true, decide_eq_false, h1, h2, h3, simprocAttr, -Nat.reduceSubDiff]) <;> (repeat (refine (aw_draw (by kernel_rfl)).2 ?_; simp -dsimp (disch := first | omega | (simp only [h1, h2, h3, List.length_cons, List.length_nil, List.length_map, List.length_append, List.length_take, List.length_drop, List.length_replicate, List.length_set, mkG_len] <;> omega) | fail) only [push_cast, if_pos, decide_eq_true, decide_eq_false, h1, h2, h3, simprocAttr, -Nat.reduceSubDiff]))
  refine callC (l3Cut t ht) ?_
  rw [hc]
  have hx5 : (stB (sizB ++ q)).size = 5 + q.length := by rw [stB_size, hq5]
  have hxe : (stB (sizB ++ q)).extract 5 (5 + q.length) = stB q := by
    rw [ext_cur]
    unfold curB
    rw [bt_stB, List.take_of_length_le (by omega), show (sizB ++ q).drop 5 = q from List.drop_left' rfl]
  have hxi : 5 + ((5 : Int) + (q.length : Int) - 5).toNat = 5 + q.length := by omega
  (simp -dsimp (disch := first | omega | (simp only [hx5, hxe, hxi, List.length_cons, List.length_nil, List.length_map, List.length_append, List.length_take, List.length_drop, List.length_replicate, List.length_set, mkG_len] <;> omega) | fail) only [push_cast, if_pos, decide_eq_true, decide_eq_false, hx5, hxe, hxi, simprocAttr, -Nat.reduceSubDiff]) <;> (repeat (refine (aw_draw (by kernel_rfl)).2 ?_; simp -dsimp (disch := first | omega | (simp only [hx5, hxe, hxi, List.length_cons, List.length_nil, List.length_map, List.length_append, List.length_take, List.length_drop, List.length_replicate, List.length_set, mkG_len] <;> omega) | fail) only [push_cast, if_pos, decide_eq_true, decide_eq_false, hx5, hxe, hxi, simprocAttr, -Nat.reduceSubDiff]))
  refine callC (l3Number (stB q) (by rw [stB_size]; omega)) ?_
  rw [bt_stB]
  (simp -dsimp (disch := first | omega | (simp only [hx5, hxe, hxi, List.length_cons, List.length_nil, List.length_map, List.length_append, List.length_take, List.length_drop, List.length_replicate, List.length_set, mkG_len] <;> omega) | fail) only [push_cast, if_pos, decide_eq_true, decide_eq_false, hx5, hxe, hxi, simprocAttr, -Nat.reduceSubDiff]) <;> (repeat (refine (aw_draw (by kernel_rfl)).2 ?_; simp -dsimp (disch := first | omega | (simp only [hx5, hxe, hxi, List.length_cons, List.length_nil, List.length_map, List.length_append, List.length_take, List.length_drop, List.length_replicate, List.length_set, mkG_len] <;> omega) | fail) only [push_cast, if_pos, decide_eq_true, decide_eq_false, hx5, hxe, hxi, simprocAttr, -Nat.reduceSubDiff]))
  refine loop_ind (α := Nat) (fun j => j ≤ L.length - 1)
    (fun j => ⟨[(0, .sc (.string t)), (1, .sc (.int .i64 w)), (4, .pt 1 0 0), (6, .ow 3 0 (L.length + 1)), (7, .pt 4 0 0), (8, .sc (.int .i64 (j + 1)))],
      [(1, .bx [.sc (.int .i64 0), .ow 2 0 0]), (2, .ar 1 0 []), (3, .ar 1 0 (strR (stB (sizB ++ q)) :: (L.map stB).map strR)), (4, .bx [.sc (.int .i64 (numB q)), .ow 5 0 ((L.take j).map fun x => stB (unhex x)).length]), (5, .ar 1 0 (((L.take j).map fun x => stB (unhex x)).map strR))], 6⟩) (fun j => L.length - j) 0 (Nat.zero_le _) ?_ ?_
  · simp -dsimp (disch := first | omega | (simp only [List.take_zero, List.map_nil, List.length_cons, List.length_nil, List.length_map, List.length_append, List.length_take, List.length_drop, List.length_replicate, List.length_set, mkG_len] <;> omega) | fail) only [push_cast, if_pos, decide_eq_true, decide_eq_false, List.take_zero, List.map_nil, simprocAttr, -Nat.reduceSubDiff]
  intro j hj ih
  have hjl : ((L.take j).map fun x => stB (unhex x)).length = j := by rw [List.length_map, List.length_take]; omega
  by_cases h : j + 1 < L.length
  · obtain ⟨x, hx⟩ := ex_get (show j < L.length by omega)
    have hxs := hLs x (List.mem_cons_of_mem _ (List.mem_of_getElem? hx))
    have hst : ((L.take (j + 1)).map fun x => stB (unhex x)) = ((L.take j).map fun x => stB (unhex x)) ++ [stB (unhex x)] := by rw [take_step hx, List.map_append]; rfl
    have e1 : ((j : Int) + 1).toNat = j + 1 := by omega
    obtain ⟨D, hD⟩ : ∃ D, D = ((L.take j).map fun x => stB (unhex x)) := ⟨_, rfl⟩
    rw [← hD] at hjl hst ⊢
    (simp -dsimp (disch := first | omega | (simp only [h, hx, e1, wr_id, List.length_cons, List.length_nil, List.length_map, List.length_append, List.length_take, List.length_drop, List.length_replicate, List.length_set, mkG_len] <;> omega) | fail) only [push_cast, if_pos, decide_eq_true, decide_eq_false, h, hx, e1, wr_id, simprocAttr, -Nat.reduceSubDiff]) <;> (repeat (refine (aw_draw (by kernel_rfl)).2 ?_; simp -dsimp (disch := first | omega | (simp only [h, hx, e1, wr_id, List.length_cons, List.length_nil, List.length_map, List.length_append, List.length_take, List.length_drop, List.length_replicate, List.length_set, mkG_len] <;> omega) | fail) only [push_cast, if_pos, decide_eq_true, decide_eq_false, h, hx, e1, wr_id, simprocAttr, -Nat.reduceSubDiff]))
    refine callC (l3Bytes (stB x) (by rw [stB_size]; omega)) ?_
    rw [bt_stB]
    (simp -dsimp (disch := first | omega | (simp only [h, hx, e1, wr_id, List.length_cons, List.length_nil, List.length_map, List.length_append, List.length_take, List.length_drop, List.length_replicate, List.length_set, mkG_len] <;> omega) | fail) only [push_cast, if_pos, decide_eq_true, decide_eq_false, h, hx, e1, wr_id, simprocAttr, -Nat.reduceSubDiff]) <;> (repeat (refine (aw_draw (by kernel_rfl)).2 ?_; simp -dsimp (disch := first | omega | (simp only [h, hx, e1, wr_id, List.length_cons, List.length_nil, List.length_map, List.length_append, List.length_take, List.length_drop, List.length_replicate, List.length_set, mkG_len] <;> omega) | fail) only [push_cast, if_pos, decide_eq_true, decide_eq_false, h, hx, e1, wr_id, simprocAttr, -Nat.reduceSubDiff]))
    refine ih (j + 1) _ (by omega) (by omega) ?_
    rw [hst]
    simp -dsimp (disch := first | omega | (simp only [wr_id, List.map_append, List.length_append, List.length_cons, List.length_nil, List.map_cons, List.map_nil, List.length_cons, List.length_nil, List.length_map, List.length_append, List.length_take, List.length_drop, List.length_replicate, List.length_set, mkG_len] <;> omega) | fail) only [push_cast, if_pos, decide_eq_true, decide_eq_false, wr_id, List.map_append, List.length_append, List.length_cons, List.length_nil, List.map_cons, List.map_nil, simprocAttr, -Nat.reduceSubDiff]
  · have hj : j = L.length - 1 := by omega
    have hPj : P = ⟨numB q, (L.take j).map fun x => stB (unhex x)⟩ := by rw [hP, hj]
    have hPS : ((L.take j).map fun x => stB (unhex x)) = P.S := by rw [hPj]
    have hPz : numB q = P.sz := by rw [hPj]
    rw [hPS, hPz]
    rw [hPS] at hjl
    (simp -dsimp (disch := first | omega | (simp only [h, wr_id, List.length_cons, List.length_nil, List.length_map, List.length_append, List.length_take, List.length_drop, List.length_replicate, List.length_set, mkG_len] <;> omega) | fail) only [push_cast, if_pos, decide_eq_true, decide_eq_false, h, wr_id, simprocAttr, -Nat.reduceSubDiff]) <;> (repeat (refine (aw_draw (by kernel_rfl)).2 ?_; simp -dsimp (disch := first | omega | (simp only [h, wr_id, List.length_cons, List.length_nil, List.length_map, List.length_append, List.length_take, List.length_drop, List.length_replicate, List.length_set, mkG_len] <;> omega) | fail) only [push_cast, if_pos, decide_eq_true, decide_eq_false, h, wr_id, simprocAttr, -Nat.reduceSubDiff]))
    refine callC (specFormList P w (by omega)) ?_
    by_cases e : formL P w = t
    · rw [if_pos e] at hM
      subst hM
      (simp -dsimp (disch := first | omega | (simp only [e, List.length_cons, List.length_nil, List.length_map, List.length_append, List.length_take, List.length_drop, List.length_replicate, List.length_set, mkG_len] <;> omega) | fail) only [push_cast, if_pos, decide_eq_true, decide_eq_false, e, simprocAttr, -Nat.reduceSubDiff]) <;> (repeat (refine (aw_draw (by kernel_rfl)).2 ?_; simp -dsimp (disch := first | omega | (simp only [e, List.length_cons, List.length_nil, List.length_map, List.length_append, List.length_take, List.length_drop, List.length_replicate, List.length_set, mkG_len] <;> omega) | fail) only [push_cast, if_pos, decide_eq_true, decide_eq_false, e, simprocAttr, -Nat.reduceSubDiff]))
    · rw [if_neg e] at hM
      subst hM
      (simp -dsimp (disch := first | omega | (simp only [e, List.length_cons, List.length_nil, List.length_map, List.length_append, List.length_take, List.length_drop, List.length_replicate, List.length_set, mkG_len] <;> omega) | fail) only [push_cast, if_pos, decide_eq_true, decide_eq_false, e, simprocAttr, -Nat.reduceSubDiff]) <;> (repeat (refine (aw_draw (by kernel_rfl)).2 ?_; simp -dsimp (disch := first | omega | (simp only [e, List.length_cons, List.length_nil, List.length_map, List.length_append, List.length_take, List.length_drop, List.length_replicate, List.length_set, mkG_len] <;> omega) | fail) only [push_cast, if_pos, decide_eq_true, decide_eq_false, e, simprocAttr, -Nat.reduceSubDiff]))
end Go.Proofs.YtgkncgiglmdnaaaGreatDoor.Mx

/- Lists' texts read again: the program. -/
namespace Go.Proofs.YtgkncgiglmdnaaaGreatDoor.Mx
set_option linter.all false
open Go Go.RowKit Go.Proofs
set_option linter.unusedSimpArgs false
theorem pre_of {s p : List UInt8} (h : Lib.hasPrefix s p = true) : ∃ q, s = p ++ q ∧ Lib.trimPrefix s p = q := by
  unfold Lib.trimPrefix
  rw [if_pos h]
  obtain ⟨q, hq⟩ := List.isPrefixOf_iff_prefix.1 h
  exact ⟨q, hq.symm, by rw [← hq, List.drop_left' rfl]⟩
theorem pre_app {p q : List UInt8} : Lib.hasPrefix (p ++ q) p = true ∧ Lib.trimPrefix (p ++ q) p = q := by
  have h : Lib.hasPrefix (p ++ q) p = true := List.isPrefixOf_iff_prefix.2 ⟨q, rfl⟩
  refine ⟨h, ?_⟩
  unfold Lib.trimPrefix
  rw [if_pos h, List.drop_left' rfl]
theorem v_fin : ∀ d : _root_.Fin 16, Lib.Hx.v (Lib.Hx.digit d.val) = d.val := by decide +kernel
theorem hex_at {S : List Str} {L : List (List UInt8)} {m : Nat} (h : L = hexL S ++ [[]]) (hm : L.length = m + 1) : S.length = m ∧ ∀ j x, j < m → L[j]? = some x → ∃ s, S[j]? = some s ∧ x = Lib.Hx.encode (bt s) := by
  have hl : S.length = m := by
    rw [h, List.length_append, hexL, List.length_map] at hm
    simpa using hm
  refine ⟨hl, fun j x hj hx => ?_⟩
  have hh : (hexL S).length = S.length := by unfold hexL; rw [List.length_map]
  rw [h, List.getElem?_append_left (by omega)] at hx
  unfold hexL at hx
  rw [List.getElem?_map] at hx
  cases hs : S[j]? with
  | none => rw [hs] at hx; cases hx
  | some s => rw [hs] at hx; cases hx; exact ⟨s, rfl, rfl⟩
theorem dec_enc : ∀ l : List UInt8, Lib.Hx.decode (Lib.Hx.encode l) = (l, .ok)
  | [] => by rw [show Lib.Hx.encode [] = [] from rfl, Lib.Hx.decode_nil]
  | b :: r => by
    have hb : b.toNat < 256 := b.toNat_lt
    have h1 := v_fin ⟨b.toNat / 16, by omega⟩
    have h2 := v_fin ⟨b.toNat % 16, by omega⟩
    simp only at h1 h2
    rw [show Lib.Hx.encode (b :: r) = Lib.Hx.digit (b.toNat / 16) :: Lib.Hx.digit (b.toNat % 16) :: Lib.Hx.encode r from rfl, Lib.Hx.decode_two, h1, h2, if_neg (by omega), if_neg (by omega), dec_enc r]
    have : b.toNat / 16 * 16 + b.toNat % 16 = b.toNat := by omega
    rw [this]
    simp
theorem decL_hex {S : List Str} : (hexL S).map (fun x => stB (Lib.Hx.decode x).1) = S := by
  unfold hexL
  rw [List.map_map]
  conv => rhs; rw [← List.map_id S]
  apply List.map_congr_left
  intro x _
  show stB (Lib.Hx.decode (Lib.Hx.encode (bt x))).1 = x
  rw [dec_enc, stB_bt]
def E19 : Env := { T := T0, kp := look [(0, [0, 1]), (1, [0, 1, 4]), (2, [0, 1, 4, 6]), (3, [0, 1, 4, 6, 7, 8]), (4, [4]), (5, [0, 1, 4, 6, 7]), (6, [0, 1, 4, 6, 9, 10]), (7, [4]), (8, [0, 1, 4, 6, 9]), (9, [0, 1, 4, 6, 11]), (10, [0, 1, 4, 11, 56, 57, 58]), (11, [0, 1, 4, 11, 56, 57, 58]), (12, [0, 1, 4, 11, 13, 56, 57, 58]), (13, [0, 1, 4, 11, 14, 15, 56, 57, 58]), (14, [4]), (15, [0, 1, 4, 11, 14, 56, 57, 58]), (16, [0, 1, 4, 11, 56, 57, 58]), (17, [0, 1, 4, 11]), (18, [4]), (19, [4, 11])] }
attribute [local push_cast] E19
set_option maxRecDepth 20000 in
set_option maxHeartbeats 1000000 in
theorem implReadList (t : Str) (w : Int) (ht : t.size ≤ 10000000) : Does Tryz.prog 19 [.sc (.string t), .sc (.int .i64 w)] (.tu [.ag (lstC true (readL t w).1), .sc (.bool (readL t w).2)], []) := by
  refine does_of (E := E19) (rs := [.cell 4 27, .tmp 5]) (lent := []) tOk rfl Tryz.func19 rfl (by decide) rfl rfl (Nat.le_of_ble_eq_true rfl) (Nat.le_of_ble_eq_true rfl) ?_
  obtain ⟨M, hM⟩ : ∃ M, M = readL t w := ⟨_, rfl⟩
  rw [← hM]
  obtain ⟨K, hK⟩ : ∃ K, K = cutL 10 (bt t) := ⟨_, rfl⟩
  have bad : (∀ l, okLs l w = true → stB (formB l) = t → K = (sizB ++ Lib.decDigits l.sz.toNat) :: (hexL l.S ++ [[]]) → False) → M = ((⟨0, []⟩ : Lst), false) := fun h => by
    rw [hM]
    exact read_no fun l h1 h2 => h l h1 h2 (by rw [hK, ← h2, bt_stB, cut_form])
  have hKn := cutF_len 10 (bt t) [] []
  have hKs := cutF_sz 10 (bt t) [] [] t.size (by simp) (by rw [bt_len]; simp)
  have hKe := cutF_ne 10 (bt t) [] []
  rw [show cutF 10 [] [] (bt t) = cutL 10 (bt t) from rfl, ← hK] at hKn hKs hKe
  rw [bt_len, List.length_nil] at hKn
  have hsp := splitNl t ht
  rw [← hK] at hsp
  (simp -dsimp (disch := first | omega | (simp only [List.length_cons, List.length_nil, List.length_map, List.length_append, List.length_take, List.length_drop, List.length_replicate, List.length_set, mkG_len] <;> omega) | fail) only [push_cast, if_pos, decide_eq_true, decide_eq_false, simprocAttr, -Nat.reduceSubDiff]) <;> (repeat (refine (aw_draw (by kernel_rfl)).2 ?_; simp -dsimp (disch := first | omega | (simp only [List.length_cons, List.length_nil, List.length_map, List.length_append, List.length_take, List.length_drop, List.length_replicate, List.length_set, mkG_len] <;> omega) | fail) only [push_cast, if_pos, decide_eq_true, decide_eq_false, simprocAttr, -Nat.reduceSubDiff]))
  refine callC hsp ?_
  obtain ⟨a, L, hc⟩ : ∃ a L, K = a :: L := by
    cases K with
    | nil => exact (hKe rfl).elim
    | cons a L => exact ⟨a, L, rfl⟩
  rw [hc] at bad hKn hKs ⊢
  have has := hKs a (List.mem_cons_self ..)
  (simp -dsimp (disch := first | omega | (simp only [List.length_cons, List.length_nil, List.length_map, List.length_append, List.length_take, List.length_drop, List.length_replicate, List.length_set, mkG_len] <;> omega) | fail) only [push_cast, if_pos, decide_eq_true, decide_eq_false, simprocAttr, -Nat.reduceSubDiff]) <;> (repeat (refine (aw_draw (by kernel_rfl)).2 ?_; simp -dsimp (disch := first | omega | (simp only [List.length_cons, List.length_nil, List.length_map, List.length_append, List.length_take, List.length_drop, List.length_replicate, List.length_set, mkG_len] <;> omega) | fail) only [push_cast, if_pos, decide_eq_true, decide_eq_false, simprocAttr, -Nat.reduceSubDiff]))
  refine callC (cutPrefix (stB a) ⟨#[115, 105, 122, 101, 32]⟩) ?_
  rw [bt_stB, show bt ⟨#[115, 105, 122, 101, 32]⟩ = sizB from rfl]
  cases hp : Lib.hasPrefix a sizB with
  | false =>
    have hM := bad fun l _ _ h => by
      injection h with h1 h2
      rw [h1, pre_app.1] at hp; cases hp
    subst hM
    (simp -dsimp (disch := first | omega | (simp only [List.length_cons, List.length_nil, List.length_map, List.length_append, List.length_take, List.length_drop, List.length_replicate, List.length_set, mkG_len] <;> omega) | fail) only [push_cast, if_pos, decide_eq_true, decide_eq_false, simprocAttr, -Nat.reduceSubDiff]) <;> (repeat (refine (aw_draw (by kernel_rfl)).2 ?_; simp -dsimp (disch := first | omega | (simp only [List.length_cons, List.length_nil, List.length_map, List.length_append, List.length_take, List.length_drop, List.length_replicate, List.length_set, mkG_len] <;> omega) | fail) only [push_cast, if_pos, decide_eq_true, decide_eq_false, simprocAttr, -Nat.reduceSubDiff]))
  | true =>
  obtain ⟨q, hq, hq2⟩ := pre_of hp
  rw [hq2]
  have hql : a.length = 5 + q.length := by rw [hq, List.length_append]; rfl
  -- the last line
  obtain ⟨b, hb⟩ : ∃ b, (a :: L)[L.length]? = some b := ex_get (by simp)
  have hbm : (([AV.sc (Value.string (stB a))] :: List.map strR (List.map stB L)) : List Row)[L.length]? = some [AV.sc (Value.string (stB b))] := by
    show (((a :: L).map stB).map strR)[L.length]? = _
    rw [List.getElem?_map, List.getElem?_map, hb]; rfl
  rw [List.length_cons] at hKn
  have hLn : L.length ≤ 10000000 := by omega
  have e0 : wr .i64 ((L.length : Int) + 1 - 1) = (L.length : Int) := by rw [show (L.length : Int) + 1 - 1 = L.length by omega]; exact wr_id (by omega) (by omega)
  by_cases hb0 : stB b = ⟨#[]⟩
  rotate_left
  · have hM := bad fun l _ _ h => by
      rw [h] at hb
      injection h with h1 h2
      rw [h2, List.length_append, List.length_cons, List.length_nil, List.getElem?_cons_succ, List.getElem?_append_right (by omega)] at hb
      simp at hb
      exact hb0 (by rw [← hb]; rfl)
    subst hM
    (simp -dsimp (disch := first | omega | (simp only [hbm, e0, hb0, wr_id, List.length_cons, List.length_nil, List.length_map, List.length_append, List.length_take, List.length_drop, List.length_replicate, List.length_set, mkG_len] <;> omega) | fail) only [push_cast, if_pos, decide_eq_true, decide_eq_false, hbm, e0, hb0, wr_id, simprocAttr, -Nat.reduceSubDiff]) <;> (repeat (refine (aw_draw (by kernel_rfl)).2 ?_; simp -dsimp (disch := first | omega | (simp only [hbm, e0, hb0, wr_id, List.length_cons, List.length_nil, List.length_map, List.length_append, List.length_take, List.length_drop, List.length_replicate, List.length_set, mkG_len] <;> omega) | fail) only [push_cast, if_pos, decide_eq_true, decide_eq_false, hbm, e0, hb0, wr_id, simprocAttr, -Nat.reduceSubDiff]))
  by_cases h4 : 4 < q.length
  · have hM := bad fun l hl _ h => by
      obtain ⟨_, _, s0, s3, _, _⟩ := okLs_up hl
      injection h with h1 h2
      have h3 := dec_len4 (n := l.sz.toNat) (by omega)
      rw [h1] at hql
      rw [List.length_append, show sizB.length = 5 from rfl] at hql
      omega
    subst hM
    (simp -dsimp (disch := first | omega | (simp only [hbm, e0, hb0, wr_id, stB_size, h4, List.length_cons, List.length_nil, List.length_map, List.length_append, List.length_take, List.length_drop, List.length_replicate, List.length_set, mkG_len] <;> omega) | fail) only [push_cast, if_pos, decide_eq_true, decide_eq_false, hbm, e0, hb0, wr_id, stB_size, h4, simprocAttr, -Nat.reduceSubDiff]) <;> (repeat (refine (aw_draw (by kernel_rfl)).2 ?_; simp -dsimp (disch := first | omega | (simp only [hbm, e0, hb0, wr_id, stB_size, h4, List.length_cons, List.length_nil, List.length_map, List.length_append, List.length_take, List.length_drop, List.length_replicate, List.length_set, mkG_len] <;> omega) | fail) only [push_cast, if_pos, decide_eq_true, decide_eq_false, hbm, e0, hb0, wr_id, stB_size, h4, simprocAttr, -Nat.reduceSubDiff]))
  (simp -dsimp (disch := first | omega | (simp only [hbm, e0, hb0, wr_id, stB_size, h4, List.length_cons, List.length_nil, List.length_map, List.length_append, List.length_take, List.length_drop, List.length_replicate, List.length_set, mkG_len] <;> omega) | fail) only [push_cast, if_pos, decide_eq_true, decide_eq_false, hbm, e0, hb0, wr_id, stB_size, h4, simprocAttr, -Nat.reduceSubDiff]) <;> (repeat (refine (aw_draw (by kernel_rfl)).2 ?_; simp -dsimp (disch := first | omega | (simp only [hbm, e0, hb0, wr_id, stB_size, h4, List.length_cons, List.length_nil, List.length_map, List.length_append, List.length_take, List.length_drop, List.length_replicate, List.length_set, mkG_len] <;> omega) | fail) only [push_cast, if_pos, decide_eq_true, decide_eq_false, hbm, e0, hb0, wr_id, stB_size, h4, simprocAttr, -Nat.reduceSubDiff]))
  cases hA : Lib.atoi q with
  | none =>
    have hM := bad fun l _ _ h => by
      injection h with h1 h2
      rw [hq] at h1
      rw [List.append_cancel_left h1, atoi_dec] at hA
      cases hA
    subst hM
    refine callC (atoi_no (stB q) (by rw [stB_size]; omega) (by rw [bt_stB]; exact hA)) ?_
    (simp -dsimp (disch := first | omega | (simp only [isC, pNil, List.length_cons, List.length_nil, List.length_map, List.length_append, List.length_take, List.length_drop, List.length_replicate, List.length_set, mkG_len] <;> omega) | fail) only [push_cast, if_pos, decide_eq_true, decide_eq_false, isC, pNil, simprocAttr, -Nat.reduceSubDiff]) <;> (repeat (refine (aw_draw (by kernel_rfl)).2 ?_; simp -dsimp (disch := first | omega | (simp only [isC, pNil, List.length_cons, List.length_nil, List.length_map, List.length_append, List.length_take, List.length_drop, List.length_replicate, List.length_set, mkG_len] <;> omega) | fail) only [push_cast, if_pos, decide_eq_true, decide_eq_false, isC, pNil, simprocAttr, -Nat.reduceSubDiff]))
  | some n =>
  refine callC (atoi_yes (stB q) n (by rw [stB_size]; omega) (by rw [bt_stB]; exact hA)) ?_
  have hL0 : L.length ≠ 0 := fun h0 => by
    rw [h0] at hb
    have hb : a = b := Option.some.inj hb
    have := congrArg ByteArray.size hb0
    rw [stB_size, ← hb, hql] at this
    have e : (⟨#[]⟩ : ByteArray).size = 0 := rfl
    omega
  obtain ⟨m, hm⟩ : ∃ m, L.length = m + 1 := ⟨L.length - 1, by omega⟩
  have e1 : wr .i64 ((m : Int) + 1 + 1 - 1) = ((m + 1 : Nat) : Int) := by rw [show (m : Int) + 1 + 1 - 1 = ((m + 1 : Nat) : Int) by omega]; exact wr_id (by omega) (by omega)
  have e2 : ((m : Int) + 1 - 1).toNat = m := by omega
  rw [hm]
  (simp -dsimp (disch := first | omega | (simp only [hm, e1, e2, wr_id, isC, pNil, List.length_cons, List.length_nil, List.length_map, List.length_append, List.length_take, List.length_drop, List.length_replicate, List.length_set, mkG_len] <;> omega) | fail) only [push_cast, if_pos, decide_eq_true, decide_eq_false, hm, e1, e2, wr_id, isC, pNil, simprocAttr, -Nat.reduceSubDiff]) <;> (repeat (refine (aw_draw (by kernel_rfl)).2 ?_; simp -dsimp (disch := first | omega | (simp only [hm, e1, e2, wr_id, isC, pNil, List.length_cons, List.length_nil, List.length_map, List.length_append, List.length_take, List.length_drop, List.length_replicate, List.length_set, mkG_len] <;> omega) | fail) only [push_cast, if_pos, decide_eq_true, decide_eq_false, hm, e1, e2, wr_id, isC, pNil, simprocAttr, -Nat.reduceSubDiff]))
  have hLx : ∀ l : Lst, a :: L = (sizB ++ Lib.decDigits l.sz.toNat) :: (hexL l.S ++ [[]]) → L = hexL l.S ++ [[]] := fun l h => by injection h
  refine loop_ind (α := Nat) (fun j => j ≤ m ∧ j ≤ 376)
    (fun j => ⟨[(0, .sc (.string t)), (1, .sc (.int .i64 w)), (4, .pt 1 0 0), (11, .pt 3 0 0), (56, .ow 5 1 m), (57, .sc (.int .i64 m)), (58, .sc (.int .i64 j))],
      [(1, .bx [.sc (.int .i64 0), .ow 2 0 0]), (2, .ar 1 0 []), (3, .bx [.sc (.int .i64 n), .ow 4 0 ((L.take j).map fun x => stB (Lib.Hx.decode x).1).length]), (4, .ar 1 0 (((L.take j).map fun x => stB (Lib.Hx.decode x).1).map strR)), (5, .ar 1 0 ([.sc (.string (stB a))] :: (L.map stB).map strR))], 6⟩) (fun j => m - j) 0 ⟨Nat.zero_le _, Nat.zero_le _⟩ ?_ ?_
  · simp -dsimp (disch := first | omega | (simp only [List.take_zero, List.map_nil, List.length_cons, List.length_nil, List.length_map, List.length_append, List.length_take, List.length_drop, List.length_replicate, List.length_set, mkG_len] <;> omega) | fail) only [push_cast, if_pos, decide_eq_true, decide_eq_false, List.take_zero, List.map_nil, simprocAttr, -Nat.reduceSubDiff]
  rintro j ⟨hj, hj3⟩ ih
  have hjl : ((L.take j).map fun x => stB (Lib.Hx.decode x).1).length = j := by rw [List.length_map, List.length_take]; omega
  obtain ⟨D, hD⟩ : ∃ D, D = ((L.take j).map fun x => stB (Lib.Hx.decode x).1) := ⟨_, rfl⟩
  by_cases h : j < m
  · obtain ⟨x, hx⟩ := ex_get (show j < L.length by omega)
    have hxs := hKs x (List.mem_cons_of_mem _ (List.mem_of_getElem? hx))
    have hst : ((L.take (j + 1)).map fun x => stB (Lib.Hx.decode x).1) = D ++ [stB (Lib.Hx.decode x).1] := by rw [take_step hx, List.map_append, hD]; rfl
    have hx1 : (([AV.sc (Value.string (stB a))] :: List.map strR (List.map stB L)) : List Row)[1 + j]? = some [AV.sc (Value.string (stB x))] := by
      rw [Nat.add_comm, List.getElem?_cons_succ, List.getElem?_map, List.getElem?_map, hx]; rfl
    have hdl := Lib.Hx.decode_len x
    rw [← hD] at hjl ⊢
    (simp -dsimp (disch := first | omega | (simp only [hx, hx1, h, List.length_cons, List.length_nil, List.length_map, List.length_append, List.length_take, List.length_drop, List.length_replicate, List.length_set, mkG_len] <;> omega) | fail) only [push_cast, if_pos, decide_eq_true, decide_eq_false, hx, hx1, h, simprocAttr, -Nat.reduceSubDiff]) <;> (repeat (refine (aw_draw (by kernel_rfl)).2 ?_; simp -dsimp (disch := first | omega | (simp only [hx, hx1, h, List.length_cons, List.length_nil, List.length_map, List.length_append, List.length_take, List.length_drop, List.length_replicate, List.length_set, mkG_len] <;> omega) | fail) only [push_cast, if_pos, decide_eq_true, decide_eq_false, hx, hx1, h, simprocAttr, -Nat.reduceSubDiff]))
    refine callC (hexDec (stB x) (by rw [stB_size]; omega)) ?_
    rw [bt_stB]
    cases hd : (Lib.Hx.decode x).2 with
    | ok =>
      rw [show decA x = .sc .nilIface by unfold decA; rw [hd]]
      by_cases h7 : 375 < j
      · have hM := bad fun l hl _ h => by
          obtain ⟨h1, _⟩ := hex_at (hLx l h) hm
          obtain ⟨_, _, _, _, hn, _⟩ := okLs_up hl
          omega
        subst hM
        (simp -dsimp (disch := first | omega | (simp only [isC, pNil, hjl, h7, List.length_cons, List.length_nil, List.length_map, List.length_append, List.length_take, List.length_drop, List.length_replicate, List.length_set, mkG_len] <;> omega) | fail) only [push_cast, if_pos, decide_eq_true, decide_eq_false, isC, pNil, hjl, h7, simprocAttr, -Nat.reduceSubDiff]) <;> (repeat (refine (aw_draw (by kernel_rfl)).2 ?_; simp -dsimp (disch := first | omega | (simp only [isC, pNil, hjl, h7, List.length_cons, List.length_nil, List.length_map, List.length_append, List.length_take, List.length_drop, List.length_replicate, List.length_set, mkG_len] <;> omega) | fail) only [push_cast, if_pos, decide_eq_true, decide_eq_false, isC, pNil, hjl, h7, simprocAttr, -Nat.reduceSubDiff]))
      · (simp -dsimp (disch := first | omega | (simp only [isC, pNil, hjl, h7, wr_id, List.length_cons, List.length_nil, List.length_map, List.length_append, List.length_take, List.length_drop, List.length_replicate, List.length_set, mkG_len] <;> omega) | fail) only [push_cast, if_pos, decide_eq_true, decide_eq_false, isC, pNil, hjl, h7, wr_id, simprocAttr, -Nat.reduceSubDiff]) <;> (repeat (refine (aw_draw (by kernel_rfl)).2 ?_; simp -dsimp (disch := first | omega | (simp only [isC, pNil, hjl, h7, wr_id, List.length_cons, List.length_nil, List.length_map, List.length_append, List.length_take, List.length_drop, List.length_replicate, List.length_set, mkG_len] <;> omega) | fail) only [push_cast, if_pos, decide_eq_true, decide_eq_false, isC, pNil, hjl, h7, wr_id, simprocAttr, -Nat.reduceSubDiff]))
        refine ih (j + 1) _ (by omega) ⟨h, by omega⟩ ?_
        rw [hst]
        simp -dsimp (disch := first | omega | (simp only [wr_id, List.map_append, List.length_append, List.length_cons, List.length_nil, List.map_cons, List.map_nil, hjl, stB, List.length_cons, List.length_nil, List.length_map, List.length_append, List.length_take, List.length_drop, List.length_replicate, List.length_set, mkG_len] <;> omega) | fail) only [push_cast, if_pos, decide_eq_true, decide_eq_false, wr_id, List.map_append, List.length_append, List.length_cons, List.length_nil, List.map_cons, List.map_nil, hjl, stB, simprocAttr, -Nat.reduceSubDiff]
    | bad c =>
      have hM := bad fun l hl _ h3 => by
        obtain ⟨_, h2⟩ := hex_at (hLx l h3) hm
        obtain ⟨s, _, hs⟩ := h2 j x h hx
        rw [hs, dec_enc] at hd; cases hd
      subst hM
      rw [show decA x = .er by unfold decA; rw [hd]]
      (simp -dsimp (disch := first | omega | (simp only [isC, pNil, hjl, List.length_cons, List.length_nil, List.length_map, List.length_append, List.length_take, List.length_drop, List.length_replicate, List.length_set, mkG_len] <;> omega) | fail) only [push_cast, if_pos, decide_eq_true, decide_eq_false, isC, pNil, hjl, simprocAttr, -Nat.reduceSubDiff]) <;> (repeat (refine (aw_draw (by kernel_rfl)).2 ?_; simp -dsimp (disch := first | omega | (simp only [isC, pNil, hjl, List.length_cons, List.length_nil, List.length_map, List.length_append, List.length_take, List.length_drop, List.length_replicate, List.length_set, mkG_len] <;> omega) | fail) only [push_cast, if_pos, decide_eq_true, decide_eq_false, isC, pNil, hjl, simprocAttr, -Nat.reduceSubDiff]))
    | odd =>
      have hM := bad fun l hl _ h3 => by
        obtain ⟨_, h2⟩ := hex_at (hLx l h3) hm
        obtain ⟨s, _, hs⟩ := h2 j x h hx
        rw [hs, dec_enc] at hd; cases hd
      subst hM
      rw [show decA x = .er by unfold decA; rw [hd]]
      (simp -dsimp (disch := first | omega | (simp only [isC, pNil, hjl, List.length_cons, List.length_nil, List.length_map, List.length_append, List.length_take, List.length_drop, List.length_replicate, List.length_set, mkG_len] <;> omega) | fail) only [push_cast, if_pos, decide_eq_true, decide_eq_false, isC, pNil, hjl, simprocAttr, -Nat.reduceSubDiff]) <;> (repeat (refine (aw_draw (by kernel_rfl)).2 ?_; simp -dsimp (disch := first | omega | (simp only [isC, pNil, hjl, List.length_cons, List.length_nil, List.length_map, List.length_append, List.length_take, List.length_drop, List.length_replicate, List.length_set, mkG_len] <;> omega) | fail) only [push_cast, if_pos, decide_eq_true, decide_eq_false, isC, pNil, hjl, simprocAttr, -Nat.reduceSubDiff]))
  · have hj : j = m := by omega
    rw [← hD] at hjl ⊢
    (simp -dsimp (disch := first | omega | (simp only [h, List.length_cons, List.length_nil, List.length_map, List.length_append, List.length_take, List.length_drop, List.length_replicate, List.length_set, mkG_len] <;> omega) | fail) only [push_cast, if_pos, decide_eq_true, decide_eq_false, h, simprocAttr, -Nat.reduceSubDiff]) <;> (repeat (refine (aw_draw (by kernel_rfl)).2 ?_; simp -dsimp (disch := first | omega | (simp only [h, List.length_cons, List.length_nil, List.length_map, List.length_append, List.length_take, List.length_drop, List.length_replicate, List.length_set, mkG_len] <;> omega) | fail) only [push_cast, if_pos, decide_eq_true, decide_eq_false, h, simprocAttr, -Nat.reduceSubDiff]))
    refine callC (implFormList ⟨n, D⟩ w (by show D.length ≤ _; omega)) ?_
    by_cases e : formL ⟨n, D⟩ w = t
    · have h5 : 1 ≤ t.size := by
        have := hKs a (List.mem_cons_self ..)
        omega
      obtain ⟨o1, o2⟩ := formL_ok e h5
      have hM : M = (⟨n, D⟩, true) := by rw [hM]; exact read_of o1 o2
      subst hM
      (simp -dsimp (disch := first | omega | (simp only [e, hjl, List.length_cons, List.length_nil, List.length_map, List.length_append, List.length_take, List.length_drop, List.length_replicate, List.length_set, mkG_len] <;> omega) | fail) only [push_cast, if_pos, decide_eq_true, decide_eq_false, e, hjl, simprocAttr, -Nat.reduceSubDiff]) <;> (repeat (refine (aw_draw (by kernel_rfl)).2 ?_; simp -dsimp (disch := first | omega | (simp only [e, hjl, List.length_cons, List.length_nil, List.length_map, List.length_append, List.length_take, List.length_drop, List.length_replicate, List.length_set, mkG_len] <;> omega) | fail) only [push_cast, if_pos, decide_eq_true, decide_eq_false, e, hjl, simprocAttr, -Nat.reduceSubDiff]))
    · have hM := bad fun l hl hf h3 => by
        have h6 := hLx l h3
        have h7 : D = l.S := by
          obtain ⟨h8, _⟩ := hex_at h6 hm
          have hh : (hexL l.S).length = m := by unfold hexL; rw [List.length_map]; exact h8
          rw [hD, hj, h6, List.take_left' hh, decL_hex]
        have h9 : n = l.sz := by
          obtain ⟨_, _, s0, _, _, _⟩ := okLs_up hl
          injection h3 with h1 h2
          rw [hq] at h1
          rw [List.append_cancel_left h1, atoi_dec] at hA
          have := Option.some.inj hA
          omega
        apply e
        rw [h7, h9]
        unfold formL
        rw [if_pos hl]; exact hf
      subst hM
      (simp -dsimp (disch := first | omega | (simp only [e, hjl, List.length_cons, List.length_nil, List.length_map, List.length_append, List.length_take, List.length_drop, List.length_replicate, List.length_set, mkG_len] <;> omega) | fail) only [push_cast, if_pos, decide_eq_true, decide_eq_false, e, hjl, simprocAttr, -Nat.reduceSubDiff]) <;> (repeat (refine (aw_draw (by kernel_rfl)).2 ?_; simp -dsimp (disch := first | omega | (simp only [e, hjl, List.length_cons, List.length_nil, List.length_map, List.length_append, List.length_take, List.length_drop, List.length_replicate, List.length_set, mkG_len] <;> omega) | fail) only [push_cast, if_pos, decide_eq_true, decide_eq_false, e, hjl, simprocAttr, -Nat.reduceSubDiff]))
end Go.Proofs.YtgkncgiglmdnaaaGreatDoor.Mx

/- Lists in stores; what a store lacks. -/
namespace Go.Proofs.YtgkncgiglmdnaaaGreatDoor.Mx
set_option linter.all false
open Go Go.RowKit Go.Proofs
set_option linter.unusedSimpArgs false
def E116 : Env := { T := T0, kp := look [(0, [0, 1]), (1, [1, 2]), (2, [1, 2, 5]), (3, [1, 2, 5]), (4, [1, 2, 5]), (5, [5]), (6, [])], dp := look2 [(4, [[], [0], [], [0, 1, 2], [0, 1, 2, 3], [0, 1, 2, 3, 4], [], [6], [0, 1, 2, 3, 4, 5, 6, 7], [], [0, 1, 2, 3, 4, 5, 6, 7, 8, 9]])] }
attribute [local push_cast] E116
set_option maxHeartbeats 1000000 in
theorem l4At (s : Store) (n : Str) (hs : okStore s) : Does Tryz.prog 116 [.ag (storeC false s), .sc (.string n)] (.sc (.int .i64 (atI s.w n s.I)), []) := by
  refine does_of (E := E116) (rs := [.tmp 4]) (lent := []) tOk rfl Tryz.func116 rfl (by decide) rfl rfl (Nat.le_of_ble_eq_true rfl) (Nat.le_of_ble_eq_true rfl) ?_
  obtain ⟨M, hM⟩ : ∃ M, M = atI s.w n s.I := ⟨_, rfl⟩
  rw [← hM]
  have hl := hs.1.1
  (simp -dsimp (disch := first | omega | (simp only [List.length_cons, List.length_nil, List.length_map, List.length_append, List.length_take, List.length_drop, List.length_replicate, List.length_set, mkG_len] <;> omega) | fail) only [push_cast, if_pos, decide_eq_true, decide_eq_false, simprocAttr, -Nat.reduceSubDiff]) <;> (repeat (refine (aw_draw (by kernel_rfl)).2 ?_; simp -dsimp (disch := first | omega | (simp only [List.length_cons, List.length_nil, List.length_map, List.length_append, List.length_take, List.length_drop, List.length_replicate, List.length_set, mkG_len] <;> omega) | fail) only [push_cast, if_pos, decide_eq_true, decide_eq_false, simprocAttr, -Nat.reduceSubDiff]))
  refine loop_ind (α := Nat) (fun i => i ≤ s.I.length ∧ ∀ j y, j < i → s.I[j]? = some y → sumS y.t s.w ≠ n)
    (fun i => ⟨[(1, .sc (.string n)), (2, .pt 1 0 0), (5, .sc (.int .i64 i))], [(1, .bx (storeC false s))], 2⟩) (fun i => s.I.length - i) 0 ⟨Nat.zero_le _, fun j y h => by omega⟩ ?_ ?_
  · simp -dsimp (disch := first | omega | (simp only [List.length_cons, List.length_nil, List.length_map, List.length_append, List.length_take, List.length_drop, List.length_replicate, List.length_set, mkG_len] <;> omega) | fail) only [push_cast, if_pos, decide_eq_true, decide_eq_false, simprocAttr, -Nat.reduceSubDiff]
  rintro i ⟨hi, hq⟩ ih
  by_cases h : i < s.I.length
  · obtain ⟨x, hx⟩ := ex_get h
    have hxt : x.t.size ≤ 2097152 := hs.1.2 x (List.mem_of_getElem? hx)
    (simp -dsimp (disch := first | omega | (simp only [h, hx, List.length_cons, List.length_nil, List.length_map, List.length_append, List.length_take, List.length_drop, List.length_replicate, List.length_set, mkG_len] <;> omega) | fail) only [push_cast, if_pos, decide_eq_true, decide_eq_false, h, hx, simprocAttr, -Nat.reduceSubDiff]) <;> (repeat (refine (aw_draw (by kernel_rfl)).2 ?_; simp -dsimp (disch := first | omega | (simp only [h, hx, List.length_cons, List.length_nil, List.length_map, List.length_append, List.length_take, List.length_drop, List.length_replicate, List.length_set, mkG_len] <;> omega) | fail) only [push_cast, if_pos, decide_eq_true, decide_eq_false, h, hx, simprocAttr, -Nat.reduceSubDiff]))
    refine callC (specSum x.t s.w (by omega)) ?_
    by_cases e : sumS x.t s.w = n
    · rw [at_some hq hx e] at hM
      (simp -dsimp (disch := first | omega | (simp only [e, hM, List.length_cons, List.length_nil, List.length_map, List.length_append, List.length_take, List.length_drop, List.length_replicate, List.length_set, mkG_len] <;> omega) | fail) only [push_cast, if_pos, decide_eq_true, decide_eq_false, e, hM, simprocAttr, -Nat.reduceSubDiff]) <;> (repeat (refine (aw_draw (by kernel_rfl)).2 ?_; simp -dsimp (disch := first | omega | (simp only [e, hM, List.length_cons, List.length_nil, List.length_map, List.length_append, List.length_take, List.length_drop, List.length_replicate, List.length_set, mkG_len] <;> omega) | fail) only [push_cast, if_pos, decide_eq_true, decide_eq_false, e, hM, simprocAttr, -Nat.reduceSubDiff]))
    · (simp -dsimp (disch := first | omega | (simp only [e, List.length_cons, List.length_nil, List.length_map, List.length_append, List.length_take, List.length_drop, List.length_replicate, List.length_set, mkG_len] <;> omega) | fail) only [push_cast, if_pos, decide_eq_true, decide_eq_false, e, simprocAttr, -Nat.reduceSubDiff]) <;> (repeat (refine (aw_draw (by kernel_rfl)).2 ?_; simp -dsimp (disch := first | omega | (simp only [e, List.length_cons, List.length_nil, List.length_map, List.length_append, List.length_take, List.length_drop, List.length_replicate, List.length_set, mkG_len] <;> omega) | fail) only [push_cast, if_pos, decide_eq_true, decide_eq_false, e, simprocAttr, -Nat.reduceSubDiff]))
      refine ih (i + 1) _ (by omega) ⟨h, fun j y hj hy => ?_⟩ ?_
      · by_cases ej : j = i
        · subst ej; rw [hx] at hy; cases hy; exact e
        · exact hq j y (by omega) hy
      · simp -dsimp (disch := first | omega | (simp only [wr_id, List.length_cons, List.length_nil, List.length_map, List.length_append, List.length_take, List.length_drop, List.length_replicate, List.length_set, mkG_len] <;> omega) | fail) only [push_cast, if_pos, decide_eq_true, decide_eq_false, wr_id, simprocAttr, -Nat.reduceSubDiff]
  · rw [at_none (fun y hy => by obtain ⟨j, hj⟩ := List.getElem?_of_mem hy; exact hq j y (by have := (List.getElem?_eq_some_iff.1 hj).1; omega) hj)] at hM
    (simp -dsimp (disch := first | omega | (simp only [h, hM, List.length_cons, List.length_nil, List.length_map, List.length_append, List.length_take, List.length_drop, List.length_replicate, List.length_set, mkG_len] <;> omega) | fail) only [push_cast, if_pos, decide_eq_true, decide_eq_false, h, hM, simprocAttr, -Nat.reduceSubDiff]) <;> (repeat (refine (aw_draw (by kernel_rfl)).2 ?_; simp -dsimp (disch := first | omega | (simp only [h, hM, List.length_cons, List.length_nil, List.length_map, List.length_append, List.length_take, List.length_drop, List.length_replicate, List.length_set, mkG_len] <;> omega) | fail) only [push_cast, if_pos, decide_eq_true, decide_eq_false, h, hM, simprocAttr, -Nat.reduceSubDiff]))
def E105 : Env := { T := T0, kp := look [(0, [0, 1]), (1, [1, 2]), (2, [1, 2, 8, 9, 10]), (3, [1, 2, 8, 9, 10]), (4, [1, 2, 5, 6, 8, 9, 10]), (5, [5]), (6, [1, 2, 8, 9, 10]), (7, [])] }
attribute [local push_cast] E105
set_option maxHeartbeats 1000000 in
theorem find (s : Store) (n : Str) (hs : okStore s) : Does Tryz.prog 105 [.ag (storeC false s), .sc (.string n)] (.sc (.int .i64 (atI s.w n s.I)), []) := by
  refine does_of (E := E105) (rs := [.tmp 4]) (lent := []) tOk rfl Tryz.func105 rfl (by decide) rfl rfl (Nat.le_of_ble_eq_true rfl) (Nat.le_of_ble_eq_true rfl) ?_
  obtain ⟨M, hM⟩ : ∃ M, M = atI s.w n s.I := ⟨_, rfl⟩
  rw [← hM]
  have hl := hs.1.1
  (simp -dsimp (disch := first | omega | (simp only [List.length_cons, List.length_nil, List.length_map, List.length_append, List.length_take, List.length_drop, List.length_replicate, List.length_set, mkG_len] <;> omega) | fail) only [push_cast, if_pos, decide_eq_true, decide_eq_false, simprocAttr, -Nat.reduceSubDiff]) <;> (repeat (refine (aw_draw (by kernel_rfl)).2 ?_; simp -dsimp (disch := first | omega | (simp only [List.length_cons, List.length_nil, List.length_map, List.length_append, List.length_take, List.length_drop, List.length_replicate, List.length_set, mkG_len] <;> omega) | fail) only [push_cast, if_pos, decide_eq_true, decide_eq_false, simprocAttr, -Nat.reduceSubDiff]))
  refine loop_ind (α := Nat) (fun i => i ≤ s.I.length ∧ ∀ j y, j < i → s.I[j]? = some y → sumS y.t s.w ≠ n)
    (fun i => ⟨[(1, .sc (.string n)), (2, .pt 1 0 0), (8, .sl false 2 (s.I.map (itemC false))), (9, .sc (.int .i64 s.I.length)), (10, .sc (.int .i64 i))], [(1, .bx (storeC false s))], 2⟩) (fun i => s.I.length - i) 0 ⟨Nat.zero_le _, fun j y h => by omega⟩ ?_ ?_
  · simp -dsimp (disch := first | omega | (simp only [List.length_cons, List.length_nil, List.length_map, List.length_append, List.length_take, List.length_drop, List.length_replicate, List.length_set, mkG_len] <;> omega) | fail) only [push_cast, if_pos, decide_eq_true, decide_eq_false, simprocAttr, -Nat.reduceSubDiff]
  rintro i ⟨hi, hq⟩ ih
  by_cases h : i < s.I.length
  · obtain ⟨x, hx⟩ := ex_get h
    have hxt : x.t.size ≤ 2097152 := hs.1.2 x (List.mem_of_getElem? hx)
    (simp -dsimp (disch := first | omega | (simp only [h, hx, List.length_cons, List.length_nil, List.length_map, List.length_append, List.length_take, List.length_drop, List.length_replicate, List.length_set, mkG_len] <;> omega) | fail) only [push_cast, if_pos, decide_eq_true, decide_eq_false, h, hx, simprocAttr, -Nat.reduceSubDiff]) <;> (repeat (refine (aw_draw (by kernel_rfl)).2 ?_; simp -dsimp (disch := first | omega | (simp only [h, hx, List.length_cons, List.length_nil, List.length_map, List.length_append, List.length_take, List.length_drop, List.length_replicate, List.length_set, mkG_len] <;> omega) | fail) only [push_cast, if_pos, decide_eq_true, decide_eq_false, h, hx, simprocAttr, -Nat.reduceSubDiff]))
    refine callC (implSum x.t s.w (by omega)) ?_
    by_cases e : sumS x.t s.w = n
    · rw [at_some hq hx e] at hM
      (simp -dsimp (disch := first | omega | (simp only [e, hM, List.length_cons, List.length_nil, List.length_map, List.length_append, List.length_take, List.length_drop, List.length_replicate, List.length_set, mkG_len] <;> omega) | fail) only [push_cast, if_pos, decide_eq_true, decide_eq_false, e, hM, simprocAttr, -Nat.reduceSubDiff]) <;> (repeat (refine (aw_draw (by kernel_rfl)).2 ?_; simp -dsimp (disch := first | omega | (simp only [e, hM, List.length_cons, List.length_nil, List.length_map, List.length_append, List.length_take, List.length_drop, List.length_replicate, List.length_set, mkG_len] <;> omega) | fail) only [push_cast, if_pos, decide_eq_true, decide_eq_false, e, hM, simprocAttr, -Nat.reduceSubDiff]))
    · (simp -dsimp (disch := first | omega | (simp only [e, List.length_cons, List.length_nil, List.length_map, List.length_append, List.length_take, List.length_drop, List.length_replicate, List.length_set, mkG_len] <;> omega) | fail) only [push_cast, if_pos, decide_eq_true, decide_eq_false, e, simprocAttr, -Nat.reduceSubDiff]) <;> (repeat (refine (aw_draw (by kernel_rfl)).2 ?_; simp -dsimp (disch := first | omega | (simp only [e, List.length_cons, List.length_nil, List.length_map, List.length_append, List.length_take, List.length_drop, List.length_replicate, List.length_set, mkG_len] <;> omega) | fail) only [push_cast, if_pos, decide_eq_true, decide_eq_false, e, simprocAttr, -Nat.reduceSubDiff]))
      refine ih (i + 1) _ (by omega) ⟨h, fun j y hj hy => ?_⟩ ?_
      · by_cases ej : j = i
        · subst ej; rw [hx] at hy; cases hy; exact e
        · exact hq j y (by omega) hy
      · simp -dsimp (disch := first | omega | (simp only [wr_id, List.length_cons, List.length_nil, List.length_map, List.length_append, List.length_take, List.length_drop, List.length_replicate, List.length_set, mkG_len] <;> omega) | fail) only [push_cast, if_pos, decide_eq_true, decide_eq_false, wr_id, simprocAttr, -Nat.reduceSubDiff]
  · rw [at_none (fun y hy => by obtain ⟨j, hj⟩ := List.getElem?_of_mem hy; exact hq j y (by have := (List.getElem?_eq_some_iff.1 hj).1; omega) hj)] at hM
    (simp -dsimp (disch := first | omega | (simp only [h, hM, List.length_cons, List.length_nil, List.length_map, List.length_append, List.length_take, List.length_drop, List.length_replicate, List.length_set, mkG_len] <;> omega) | fail) only [push_cast, if_pos, decide_eq_true, decide_eq_false, h, hM, simprocAttr, -Nat.reduceSubDiff]) <;> (repeat (refine (aw_draw (by kernel_rfl)).2 ?_; simp -dsimp (disch := first | omega | (simp only [h, hM, List.length_cons, List.length_nil, List.length_map, List.length_append, List.length_take, List.length_drop, List.length_replicate, List.length_set, mkG_len] <;> omega) | fail) only [push_cast, if_pos, decide_eq_true, decide_eq_false, h, hM, simprocAttr, -Nat.reduceSubDiff]))
def E163 : Env := { T := T0, kp := look [(0, [0, 1]), (1, [1, 2, 4]), (2, [2, 4, 6]), (3, [4]), (4, [2, 4, 6])], dp := look2 [(4, [[], [0], [], [0, 1, 2], [0, 1, 2, 3], [0, 1, 2, 3, 4], [], [6], [0, 1, 2, 3, 4, 5, 6, 7], [0, 1, 2, 3, 4, 5, 6, 7, 8], [0, 1, 2, 3, 4, 5, 6, 7, 8], [0, 1, 2, 3, 4, 5, 6, 7, 8, 9, 10], [0, 1, 2, 3, 4, 5, 6, 7, 8, 9, 10, 11]])] }
attribute [local push_cast] E163
set_option maxHeartbeats 1000000 in
theorem l4List (s : Store) (n : Str) (hs : okStore s) : Does Tryz.prog 163 [.ag (storeC false s), .sc (.string n)] (.tu [.ag (lstC true (listF s n).1), .sc (.bool (listF s n).2)], []) := by
  refine does_of (E := E163) (rs := [.cell 4 27, .tmp 5]) (lent := []) tOk rfl Tryz.func163 rfl (by decide) rfl rfl (Nat.le_of_ble_eq_true rfl) (Nat.le_of_ble_eq_true rfl) ?_
  obtain ⟨M, hM⟩ : ∃ M, M = listF s n := ⟨_, rfl⟩
  rw [← hM]
  have hl := hs.1.1
  (simp -dsimp (disch := first | omega | (simp only [List.length_cons, List.length_nil, List.length_map, List.length_append, List.length_take, List.length_drop, List.length_replicate, List.length_set, mkG_len] <;> omega) | fail) only [push_cast, if_pos, decide_eq_true, decide_eq_false, simprocAttr, -Nat.reduceSubDiff]) <;> (repeat (refine (aw_draw (by kernel_rfl)).2 ?_; simp -dsimp (disch := first | omega | (simp only [List.length_cons, List.length_nil, List.length_map, List.length_append, List.length_take, List.length_drop, List.length_replicate, List.length_set, mkG_len] <;> omega) | fail) only [push_cast, if_pos, decide_eq_true, decide_eq_false, simprocAttr, -Nat.reduceSubDiff]))
  refine callC (l4At s n hs) ?_
  unfold listF at hM
  by_cases h : atI s.w n s.I < 0
  · rw [if_pos h] at hM
    subst hM
    (simp -dsimp (disch := first | omega | (simp only [h, List.length_cons, List.length_nil, List.length_map, List.length_append, List.length_take, List.length_drop, List.length_replicate, List.length_set, mkG_len] <;> omega) | fail) only [push_cast, if_pos, decide_eq_true, decide_eq_false, h, simprocAttr, -Nat.reduceSubDiff]) <;> (repeat (refine (aw_draw (by kernel_rfl)).2 ?_; simp -dsimp (disch := first | omega | (simp only [h, List.length_cons, List.length_nil, List.length_map, List.length_append, List.length_take, List.length_drop, List.length_replicate, List.length_set, mkG_len] <;> omega) | fail) only [push_cast, if_pos, decide_eq_true, decide_eq_false, h, simprocAttr, -Nat.reduceSubDiff]))
  obtain ⟨i, x, h1, h2, _⟩ := at_get (w := s.w) (n := n) (I := s.I) (by omega)
  have hxt : x.t.size ≤ 2097152 := hs.1.2 x (List.mem_of_getElem? h2)
  have hil := (List.getElem?_eq_some_iff.1 h2).1
  rw [if_neg h, h1, Int.toNat_natCast, h2] at hM
  simp only at hM
  rw [h1]
  (simp -dsimp (disch := first | omega | (simp only [h2, List.length_cons, List.length_nil, List.length_map, List.length_append, List.length_take, List.length_drop, List.length_replicate, List.length_set, mkG_len] <;> omega) | fail) only [push_cast, if_pos, decide_eq_true, decide_eq_false, h2, simprocAttr, -Nat.reduceSubDiff]) <;> (repeat (refine (aw_draw (by kernel_rfl)).2 ?_; simp -dsimp (disch := first | omega | (simp only [h2, List.length_cons, List.length_nil, List.length_map, List.length_append, List.length_take, List.length_drop, List.length_replicate, List.length_set, mkG_len] <;> omega) | fail) only [push_cast, if_pos, decide_eq_true, decide_eq_false, h2, simprocAttr, -Nat.reduceSubDiff]))
  refine callC (specReadList x.t s.w (by omega)) ?_
  rw [← hM]
  (simp -dsimp (disch := first | omega | (simp only [List.length_cons, List.length_nil, List.length_map, List.length_append, List.length_take, List.length_drop, List.length_replicate, List.length_set, mkG_len] <;> omega) | fail) only [push_cast, if_pos, decide_eq_true, decide_eq_false, simprocAttr, -Nat.reduceSubDiff]) <;> (repeat (refine (aw_draw (by kernel_rfl)).2 ?_; simp -dsimp (disch := first | omega | (simp only [List.length_cons, List.length_nil, List.length_map, List.length_append, List.length_take, List.length_drop, List.length_replicate, List.length_set, mkG_len] <;> omega) | fail) only [push_cast, if_pos, decide_eq_true, decide_eq_false, simprocAttr, -Nat.reduceSubDiff]))
end Go.Proofs.YtgkncgiglmdnaaaGreatDoor.Mx

/- Names that a store needs. -/
namespace Go.Proofs.YtgkncgiglmdnaaaGreatDoor.Mx
set_option linter.all false
open Go Go.RowKit Go.Proofs
set_option linter.unusedSimpArgs false
def E107 : Env := { T := T0, kp := look [(0, [0]), (1, [1]), (2, [1, 3]), (3, [1, 3, 4]), (4, [1, 3, 4]), (5, [1, 3, 4]), (6, [1, 3, 4]), (7, [1, 3, 4, 5, 6]), (8, [1, 3, 4, 5, 6, 7]), (9, [1, 3, 4, 5, 6, 7]), (10, [1, 3, 4, 5, 6, 7]), (11, [3])], dp := look2 [(6, [[], [], [1], [], [1, 2, 3], [1, 2, 3, 4], [0, 1, 2, 3, 4, 5], [0, 1, 2, 3, 4, 5, 6], [0, 1, 2, 3, 4, 5, 6, 7], [0, 1, 2, 3, 4, 5, 6, 7], [], [0, 1, 2, 3, 4, 5, 6, 7, 8, 10], [0, 1, 2, 3, 4, 5, 6, 7, 8, 9, 10, 11]])], md := look3 [(5, 6, [2]), (10, 6, [2])] }
attribute [local push_cast] E107
set_option maxRecDepth 20000 in
set_option maxHeartbeats 1000000 in
theorem l4Needed (s : Store) (hs : okStore s) (hP : s.P.length ≤ 10) : Does Tryz.prog 107 [.ag (storeC false s)] (.sl true 1 (((nmsL s).foldl addS []).map strR), []) := by
  refine does_of (E := E107) (rs := [.tmp 2]) (lent := []) tOk rfl Tryz.func107 rfl (by decide) rfl rfl (Nat.le_of_ble_eq_true rfl) (Nat.le_of_ble_eq_true rfl) ?_
  obtain ⟨M, hM⟩ : ∃ M, M = (nmsL s).foldl addS [] := ⟨_, rfl⟩
  rw [← hM]
  unfold nmsL at hM
  (simp -dsimp (disch := first | omega | (simp only [List.length_cons, List.length_nil, List.length_map, List.length_append, List.length_take, List.length_drop, List.length_replicate, List.length_set, mkG_len] <;> omega) | fail) only [push_cast, if_pos, decide_eq_true, decide_eq_false, simprocAttr, -Nat.reduceSubDiff]) <;> (repeat (refine (aw_draw (by kernel_rfl)).2 ?_; simp -dsimp (disch := first | omega | (simp only [List.length_cons, List.length_nil, List.length_map, List.length_append, List.length_take, List.length_drop, List.length_replicate, List.length_set, mkG_len] <;> omega) | fail) only [push_cast, if_pos, decide_eq_true, decide_eq_false, simprocAttr, -Nat.reduceSubDiff]))
  refine loop_ind (α := Nat × List Str) (fun q => q.1 ≤ s.P.length ∧ q.2 = ((s.P.take q.1).flatMap (nmsF s)).foldl addS [])
    (fun q => ⟨[(1, .pt 1 0 0), (3, .ow 2 0 q.2.length), (4, .sc (.int .i64 q.1))], [(1, .bx (storeC false s)), (2, .ar 1 0 (q.2.map strR))], 3⟩) (fun q => s.P.length - q.1) (0, []) ⟨Nat.zero_le _, rfl⟩ ?_ ?_
  · simp -dsimp (disch := first | omega | (simp only [List.length_cons, List.length_nil, List.length_map, List.length_append, List.length_take, List.length_drop, List.length_replicate, List.length_set, mkG_len] <;> omega) | fail) only [push_cast, if_pos, decide_eq_true, decide_eq_false, simprocAttr, -Nat.reduceSubDiff]
  rintro ⟨i, A⟩ ⟨hi, hA⟩ ih
  replace hi : i ≤ s.P.length := hi
  replace hA : A = ((s.P.take i).flatMap (nmsF s)).foldl addS [] := hA
  have hAl : A.length ≤ 3760 := by
    have h1 := foldS_len ((s.P.take i).flatMap (nmsF s)) []
    have h2 := nms_len s (s.P.take i)
    rw [← hA, List.length_nil] at h1
    rw [List.length_take] at h2
    omega
  by_cases h : i < s.P.length
  · obtain ⟨p, hp⟩ := ex_get h
    have hst := nms_step hp
    (simp -dsimp (disch := first | omega | (simp only [h, hp, List.length_cons, List.length_nil, List.length_map, List.length_append, List.length_take, List.length_drop, List.length_replicate, List.length_set, mkG_len] <;> omega) | fail) only [push_cast, if_pos, decide_eq_true, decide_eq_false, h, hp, simprocAttr, -Nat.reduceSubDiff]) <;> (repeat (refine (aw_draw (by kernel_rfl)).2 ?_; simp -dsimp (disch := first | omega | (simp only [h, hp, List.length_cons, List.length_nil, List.length_map, List.length_append, List.length_take, List.length_drop, List.length_replicate, List.length_set, mkG_len] <;> omega) | fail) only [push_cast, if_pos, decide_eq_true, decide_eq_false, h, hp, simprocAttr, -Nat.reduceSubDiff]))
    refine callC (l4Add A p (by omega)) ?_
    (simp -dsimp (disch := first | omega | (simp only [h, hp, List.length_cons, List.length_nil, List.length_map, List.length_append, List.length_take, List.length_drop, List.length_replicate, List.length_set, mkG_len] <;> omega) | fail) only [push_cast, if_pos, decide_eq_true, decide_eq_false, h, hp, simprocAttr, -Nat.reduceSubDiff]) <;> (repeat (refine (aw_draw (by kernel_rfl)).2 ?_; simp -dsimp (disch := first | omega | (simp only [h, hp, List.length_cons, List.length_nil, List.length_map, List.length_append, List.length_take, List.length_drop, List.length_replicate, List.length_set, mkG_len] <;> omega) | fail) only [push_cast, if_pos, decide_eq_true, decide_eq_false, h, hp, simprocAttr, -Nat.reduceSubDiff]))
    refine callC (l4List s p hs) ?_
    have hlo := list_ok (s := s) (n := p)
    have hlf := list_false (s := s) (n := p)
    rw [show nmsF s p = p :: (listF s p).1.S from rfl] at hst
    generalize listF s p = R at *
    obtain ⟨l, b⟩ := R
    simp only at hlo hlf hst ⊢
    have hl := hlo.1
    (simp -dsimp (disch := first | omega | (simp only [List.length_cons, List.length_nil, List.length_map, List.length_append, List.length_take, List.length_drop, List.length_replicate, List.length_set, mkG_len] <;> omega) | fail) only [push_cast, if_pos, decide_eq_true, decide_eq_false, simprocAttr, -Nat.reduceSubDiff]) <;> (repeat (refine (aw_draw (by kernel_rfl)).2 ?_; simp -dsimp (disch := first | omega | (simp only [List.length_cons, List.length_nil, List.length_map, List.length_append, List.length_take, List.length_drop, List.length_replicate, List.length_set, mkG_len] <;> omega) | fail) only [push_cast, if_pos, decide_eq_true, decide_eq_false, simprocAttr, -Nat.reduceSubDiff]))
    refine loop_ind (α := Nat × List Str) (fun q => q.1 ≤ l.S.length ∧ q.2 = (l.S.take q.1).foldl addS (addS A p) ∧ q.2.length ≤ 3761 + q.1)
      (fun q => ⟨[(1, .pt 1 0 0), (3, .ow 2 0 q.2.length), (4, .sc (.int .i64 i)), (5, .pt 3 0 0), (6, .sc (.bool b)), (7, .sc (.int .i64 q.1))], [(1, .bx (storeC false s)), (2, .ar 1 0 (q.2.map strR)), (3, .bx [.sc (.int .i64 l.sz), .ow 4 0 l.S.length]), (4, .ar 1 0 (l.S.map strR))], 5⟩) (fun q => l.S.length - q.1) (0, addS A p) ⟨Nat.zero_le _, rfl, by have := addS_len1 A p; show (addS A p).length ≤ 3761 + 0; omega⟩ ?_ ?_
    · simp -dsimp (disch := first | omega | (simp only [List.length_cons, List.length_nil, List.length_map, List.length_append, List.length_take, List.length_drop, List.length_replicate, List.length_set, mkG_len] <;> omega) | fail) only [push_cast, if_pos, decide_eq_true, decide_eq_false, simprocAttr, -Nat.reduceSubDiff]
    rintro ⟨j, B⟩ ⟨hj, hB, hBl⟩ ih2
    replace hj : j ≤ l.S.length := hj
    replace hB : B = (l.S.take j).foldl addS (addS A p) := hB
    replace hBl : B.length ≤ 3761 + j := hBl
    have fin : j = l.S.length → B = ((s.P.take (i + 1)).flatMap (nmsF s)).foldl addS [] := fun e => by
      rw [hst, List.foldl_append, ← hA, hB, e, List.take_length]; rfl
    cases b with
    | false =>
      have hS : l.S = [] := by rw [hlf rfl]
      have e : j = l.S.length := by rw [hS] at hj ⊢; simpa using hj
      (simp -dsimp (disch := first | omega | (simp only [List.length_cons, List.length_nil, List.length_map, List.length_append, List.length_take, List.length_drop, List.length_replicate, List.length_set, mkG_len] <;> omega) | fail) only [push_cast, if_pos, decide_eq_true, decide_eq_false, simprocAttr, -Nat.reduceSubDiff]) <;> (repeat (refine (aw_draw (by kernel_rfl)).2 ?_; simp -dsimp (disch := first | omega | (simp only [List.length_cons, List.length_nil, List.length_map, List.length_append, List.length_take, List.length_drop, List.length_replicate, List.length_set, mkG_len] <;> omega) | fail) only [push_cast, if_pos, decide_eq_true, decide_eq_false, simprocAttr, -Nat.reduceSubDiff]))
      refine ih (i + 1, B) _ (by show s.P.length - (i + 1) < s.P.length - i; omega) ⟨h, fin e⟩ ?_
      simp -dsimp (disch := first | omega | (simp only [wr_id, List.length_cons, List.length_nil, List.length_map, List.length_append, List.length_take, List.length_drop, List.length_replicate, List.length_set, mkG_len] <;> omega) | fail) only [push_cast, if_pos, decide_eq_true, decide_eq_false, wr_id, simprocAttr, -Nat.reduceSubDiff]
    | true =>
    by_cases h2 : j < l.S.length
    · obtain ⟨x, hx⟩ := ex_get h2
      (simp -dsimp (disch := first | omega | (simp only [h2, hx, List.length_cons, List.length_nil, List.length_map, List.length_append, List.length_take, List.length_drop, List.length_replicate, List.length_set, mkG_len] <;> omega) | fail) only [push_cast, if_pos, decide_eq_true, decide_eq_false, h2, hx, simprocAttr, -Nat.reduceSubDiff]) <;> (repeat (refine (aw_draw (by kernel_rfl)).2 ?_; simp -dsimp (disch := first | omega | (simp only [h2, hx, List.length_cons, List.length_nil, List.length_map, List.length_append, List.length_take, List.length_drop, List.length_replicate, List.length_set, mkG_len] <;> omega) | fail) only [push_cast, if_pos, decide_eq_true, decide_eq_false, h2, hx, simprocAttr, -Nat.reduceSubDiff]))
      refine callC (l4Add B x (by omega)) ?_
      (simp -dsimp (disch := first | omega | (simp only [List.length_cons, List.length_nil, List.length_map, List.length_append, List.length_take, List.length_drop, List.length_replicate, List.length_set, mkG_len] <;> omega) | fail) only [push_cast, if_pos, decide_eq_true, decide_eq_false, simprocAttr, -Nat.reduceSubDiff]) <;> (repeat (refine (aw_draw (by kernel_rfl)).2 ?_; simp -dsimp (disch := first | omega | (simp only [List.length_cons, List.length_nil, List.length_map, List.length_append, List.length_take, List.length_drop, List.length_replicate, List.length_set, mkG_len] <;> omega) | fail) only [push_cast, if_pos, decide_eq_true, decide_eq_false, simprocAttr, -Nat.reduceSubDiff]))
      refine ih2 (j + 1, addS B x) _ (by show l.S.length - (j + 1) < l.S.length - j; omega) ⟨h2, by rw [take_step hx, List.foldl_append, ← hB]; rfl, by have := addS_len1 B x; show (addS B x).length ≤ 3761 + (j + 1); omega⟩ ?_
      simp -dsimp (disch := first | omega | (simp only [wr_id, List.length_cons, List.length_nil, List.length_map, List.length_append, List.length_take, List.length_drop, List.length_replicate, List.length_set, mkG_len] <;> omega) | fail) only [push_cast, if_pos, decide_eq_true, decide_eq_false, wr_id, simprocAttr, -Nat.reduceSubDiff]
    · (simp -dsimp (disch := first | omega | (simp only [h2, List.length_cons, List.length_nil, List.length_map, List.length_append, List.length_take, List.length_drop, List.length_replicate, List.length_set, mkG_len] <;> omega) | fail) only [push_cast, if_pos, decide_eq_true, decide_eq_false, h2, simprocAttr, -Nat.reduceSubDiff]) <;> (repeat (refine (aw_draw (by kernel_rfl)).2 ?_; simp -dsimp (disch := first | omega | (simp only [h2, List.length_cons, List.length_nil, List.length_map, List.length_append, List.length_take, List.length_drop, List.length_replicate, List.length_set, mkG_len] <;> omega) | fail) only [push_cast, if_pos, decide_eq_true, decide_eq_false, h2, simprocAttr, -Nat.reduceSubDiff]))
      refine ih (i + 1, B) _ (by show s.P.length - (i + 1) < s.P.length - i; omega) ⟨h, fin (by omega)⟩ ?_
      simp -dsimp (disch := first | omega | (simp only [wr_id, List.length_cons, List.length_nil, List.length_map, List.length_append, List.length_take, List.length_drop, List.length_replicate, List.length_set, mkG_len] <;> omega) | fail) only [push_cast, if_pos, decide_eq_true, decide_eq_false, wr_id, simprocAttr, -Nat.reduceSubDiff]
  · have e : A = M := by rw [hA, hM, List.take_of_length_le (by omega)]
    subst e
    (simp -dsimp (disch := first | omega | (simp only [h, List.length_cons, List.length_nil, List.length_map, List.length_append, List.length_take, List.length_drop, List.length_replicate, List.length_set, mkG_len] <;> omega) | fail) only [push_cast, if_pos, decide_eq_true, decide_eq_false, h, simprocAttr, -Nat.reduceSubDiff]) <;> (repeat (refine (aw_draw (by kernel_rfl)).2 ?_; simp -dsimp (disch := first | omega | (simp only [h, List.length_cons, List.length_nil, List.length_map, List.length_append, List.length_take, List.length_drop, List.length_replicate, List.length_set, mkG_len] <;> omega) | fail) only [push_cast, if_pos, decide_eq_true, decide_eq_false, h, simprocAttr, -Nat.reduceSubDiff]))
end Go.Proofs.YtgkncgiglmdnaaaGreatDoor.Mx

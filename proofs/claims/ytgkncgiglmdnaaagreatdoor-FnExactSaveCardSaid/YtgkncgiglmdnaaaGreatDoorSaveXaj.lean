/- A machine over values for Go functions, proved sound, and functions run on it: texts G3, F3, F4, F5, B2, F6. -/
import Derived.Test.YtgkncgiglmdnaaaGreatDoorShA
import Derived.Shelf.SlSorted.Search
import Derived.Test.YtgkncgiglmdnaaaGreatDoorSaveXah
import Derived.Test.YtgkncgiglmdnaaaGreatDoorSaveXai
/- The laws' helpers run (By fam.py of this session.) -/
namespace Go.Proofs.YtgkncgiglmdnaaaGreatDoor.Mx
set_option linter.all false
open Go Go.RowKit Go.Proofs
set_option linter.unusedSimpArgs false
set_option linter.unusedVariables false
def E109 : Env := { T := T0, kp := look [(0, [0, 1]), (1, [0, 1]), (2, [0, 1, 5]), (3, [0, 1, 5]), (4, [0, 1, 5]), (5, [0, 1, 5]), (6, [0, 1, 5]), (7, [0, 1, 5]), (8, [0, 1])] }
attribute [local push_cast] E109
theorem markItemS (l : List Item) (k : Int) (k0 : 0 ≤ k) (k1 : k + cnG cnItem l < 2305843009213693952) : Does Tryz.prog 109 [.sl true 2 (l.map (itemC true)), .sc (.int .i64 k)] (.sc (.int .i64 (k + cnG cnItem l)), [some (.sl true 2 ((mkG mkItem cnItem l k).map (itemC true)))]) := by
  refine does_of (E := E109) (rs := [.tmp 4]) (lent := [true]) tOk rfl Tryz.func109 rfl (by decide) rfl rfl (Nat.le_of_ble_eq_true rfl) (Nat.le_of_ble_eq_true rfl) ?_
  have hM := mkG_len mkItem cnItem l k
  generalize hm : mkG mkItem cnItem l k = M at hM ⊢
  have hlen : (l.length : Int) ≤ cnG cnItem l := cnG_len (fun a => by have := cnItem_nn a; have := cnItem_1 a; omega) l
  simp -dsimp (disch := first | omega | (simp only [List.length_cons, List.length_nil, List.length_map, List.length_append, List.length_take, List.length_drop, List.length_replicate, List.length_set, mkG_len] <;> omega) | fail) only [push_cast, if_pos, decide_eq_true, decide_eq_false, simprocAttr, -Nat.reduceSubDiff]
  refine loop_ind (α := Nat) (fun i => i ≤ l.length) (fun i => ⟨[(0, .ow 1 0 l.length), (1, .sc (.int .i64 (k + cnG cnItem (l.take i)))), (5, .sc (.int .i64 i))], [(1, .ar 2 0 ((M.take i ++ l.drop i).map (itemC true)))], 2⟩) (fun i => l.length - i) 0 (Nat.zero_le _) ?_ ?_
  · simp -dsimp (disch := first | omega | (simp only [Int.add_zero, List.take_zero, List.drop_zero, cnG, List.length_cons, List.length_nil, List.length_map, List.length_append, List.length_take, List.length_drop, List.length_replicate, List.length_set, mkG_len] <;> omega) | fail) only [push_cast, if_pos, decide_eq_true, decide_eq_false, Int.add_zero, List.take_zero, List.drop_zero, cnG, simprocAttr, -Nat.reduceSubDiff]
  intro i hi ih
  by_cases h : i < l.length
  · obtain ⟨s, hx⟩ := ex_get h
    have hw := (get_over (a := M) (b := l) hM (by omega)).trans hx
    have hcs : cnItem s = 1 + 1 := rfl
    have hc : cnG cnItem (l.take (i + 1)) = cnG cnItem (l.take i) + cnItem s := by rw [take_step hx, cnG_app]; simp [cnG]
    have hle := cnG_app cnItem (l.take (i + 1)) (l.drop (i + 1))
    rw [List.take_append_drop] at hle
    have hnn := cnG_nn cnItem_nn (l.drop (i + 1))
    have hn0 := cnG_nn cnItem_nn (l.take i)
    have hy : M[i]? = some (mkItem s (k + cnG cnItem (l.take i))) := by rw [← hm, mkG_step hx]
    obtain ⟨K, hK⟩ : ∃ K, K = k + cnG cnItem (l.take i) := ⟨_, rfl⟩
    have hN : k + cnG cnItem (l.take (i + 1)) = K + 1 + 1 := by rw [hc, hcs]; omega
    rw [← hK] at hy
    have ee := congrArg (List.map (itemC true)) (set_over hM hy)
    rw [List.map_set] at ee
    simp -dsimp (disch := first | omega | (simp only [wr_id, hw, List.getElem?_set_self, List.set_set, List.getD_eq_getElem?_getD, ← hK, List.length_cons, List.length_nil, List.length_map, List.length_append, List.length_take, List.length_drop, List.length_replicate, List.length_set, mkG_len] <;> omega) | fail) only [push_cast, if_pos, decide_eq_true, decide_eq_false, wr_id, hw, List.getElem?_set_self, List.set_set, List.getD_eq_getElem?_getD, ← hK, simprocAttr, -Nat.reduceSubDiff]
    refine callC (markText _ (by omega)) ?_
    simp -dsimp (disch := first | omega | (simp only [wr_id, hw, List.getElem?_set_self, List.set_set, List.getD_eq_getElem?_getD, ← hK, List.length_cons, List.length_nil, List.length_map, List.length_append, List.length_take, List.length_drop, List.length_replicate, List.length_set, mkG_len] <;> omega) | fail) only [push_cast, if_pos, decide_eq_true, decide_eq_false, wr_id, hw, List.getElem?_set_self, List.set_set, List.getD_eq_getElem?_getD, ← hK, simprocAttr, -Nat.reduceSubDiff]
    refine ih (i + 1) _ (by omega) h ?_
    rw [show itemC true (mkItem s K) = [.sc (.string (mtx (K))), .sc (.int .i64 (K + 1))] from rfl] at ee
    simp -dsimp (disch := first | omega | (simp only [wr_id, hN, ee, List.length_cons, List.length_nil, List.length_map, List.length_append, List.length_take, List.length_drop, List.length_replicate, List.length_set, mkG_len] <;> omega) | fail) only [push_cast, if_pos, decide_eq_true, decide_eq_false, wr_id, hN, ee, simprocAttr, -Nat.reduceSubDiff]
  · have hn : i = l.length := by omega
    subst hn
    simp -dsimp (disch := first | omega | (simp only [List.take_of_length_le, List.drop_eq_nil_of_le, hM, Nat.le_refl, List.length_cons, List.length_nil, List.length_map, List.length_append, List.length_take, List.length_drop, List.length_replicate, List.length_set, mkG_len] <;> omega) | fail) only [push_cast, if_pos, decide_eq_true, decide_eq_false, List.take_of_length_le, List.drop_eq_nil_of_le, hM, Nat.le_refl, simprocAttr, -Nat.reduceSubDiff]
def E121 : Env := { T := T0, kp := look [(0, [0, 1]), (1, [0, 1]), (2, [0, 1, 5]), (3, [0, 1, 5]), (4, [0, 1, 5]), (5, []), (6, [0, 1, 5]), (7, [0, 1, 5]), (8, []), (9, [0, 1, 5]), (10, [1])], dp := look2 [(4, [[], [], [0, 1], [0, 1, 2], [0, 1, 2, 3], [], [5], [0, 1, 2, 3, 4, 5, 6]])] }
attribute [local push_cast] E121
theorem heldItemS (l : List Item) (k : Int) (k0 : 0 ≤ k) (k1 : k + cnG cnItem l < 2305843009213693952) : Does Tryz.prog 121 [.sl false 2 (l.map (itemC false)), .sc (.int .i64 k)] (.sc (.int .i64 (hdG hdItem cnItem l k)), []) := by
  refine does_of (E := E121) (rs := [.tmp 4]) (lent := []) tOk rfl Tryz.func121 rfl (by decide) rfl rfl (Nat.le_of_ble_eq_true rfl) (Nat.le_of_ble_eq_true rfl) ?_
  generalize hm : hdG hdItem cnItem l k = M
  have hlen : (l.length : Int) ≤ cnG cnItem l := cnG_len (fun a => by have := cnItem_nn a; have := cnItem_1 a; omega) l
  simp -dsimp (disch := first | omega | (simp only [List.length_cons, List.length_nil, List.length_map, List.length_append, List.length_take, List.length_drop, List.length_replicate, List.length_set, mkG_len] <;> omega) | fail) only [push_cast, if_pos, decide_eq_true, decide_eq_false, simprocAttr, -Nat.reduceSubDiff]
  refine loop_ind (α := Nat) (fun i => i ≤ l.length ∧ hdG hdItem cnItem (l.drop i) (k + cnG cnItem (l.take i)) = M) (fun i => ⟨[(0, .sl false 2 (l.map (itemC false))), (1, .sc (.int .i64 (k + cnG cnItem (l.take i)))), (5, .sc (.int .i64 i))], [], 1⟩) (fun i => l.length - i) 0 ⟨Nat.zero_le _, by simpa [cnG] using hm⟩ ?_ ?_
  · simp -dsimp (disch := first | omega | (simp only [Int.add_zero, List.take_zero, cnG, List.length_cons, List.length_nil, List.length_map, List.length_append, List.length_take, List.length_drop, List.length_replicate, List.length_set, mkG_len] <;> omega) | fail) only [push_cast, if_pos, decide_eq_true, decide_eq_false, Int.add_zero, List.take_zero, cnG, simprocAttr, -Nat.reduceSubDiff]
  rintro i ⟨hi, hy⟩ ih
  by_cases h : i < l.length
  · obtain ⟨s, hx⟩ := ex_get h
    have hcs : cnItem s = 1 + 1 := rfl
    have hc : cnG cnItem (l.take (i + 1)) = cnG cnItem (l.take i) + cnItem s := by rw [take_step hx, cnG_app]; simp [cnG]
    have hle := cnG_app cnItem (l.take (i + 1)) (l.drop (i + 1))
    rw [List.take_append_drop] at hle
    have hnn := cnG_nn cnItem_nn (l.drop (i + 1))
    have hn0 := cnG_nn cnItem_nn (l.take i)
    obtain ⟨K, hK⟩ : ∃ K, K = k + cnG cnItem (l.take i) := ⟨_, rfl⟩
    have hN : k + cnG cnItem (l.take (i + 1)) = K + 1 + 1 := by rw [hc, hcs]; omega
    rw [← hK, drop_step hx, hdG] at hy
    (simp -dsimp (disch := first | omega | (simp only [wr_id, hx, ← hK, List.length_cons, List.length_nil, List.length_map, List.length_append, List.length_take, List.length_drop, List.length_replicate, List.length_set, mkG_len] <;> omega) | fail) only [push_cast, if_pos, decide_eq_true, decide_eq_false, wr_id, hx, ← hK, simprocAttr, -Nat.reduceSubDiff]) <;> (repeat (refine (aw_draw (by kernel_rfl)).2 ?_; simp -dsimp (disch := first | omega | (simp only [wr_id, hx, ← hK, List.length_cons, List.length_nil, List.length_map, List.length_append, List.length_take, List.length_drop, List.length_replicate, List.length_set, mkG_len] <;> omega) | fail) only [push_cast, if_pos, decide_eq_true, decide_eq_false, wr_id, hx, ← hK, simprocAttr, -Nat.reduceSubDiff]))
    refine callC (markText _ (by omega)) ?_
    by_cases e0 : s.t = mtx (K)
    rotate_left
    · rw [if_neg (by simp [hdItem, e0])] at hy
      (simp -dsimp (disch := first | omega | (simp only [wr_id, hx, ← hK, e0, ← hy, List.length_cons, List.length_nil, List.length_map, List.length_append, List.length_take, List.length_drop, List.length_replicate, List.length_set, mkG_len] <;> omega) | fail) only [push_cast, if_pos, decide_eq_true, decide_eq_false, wr_id, hx, ← hK, e0, ← hy, simprocAttr, -Nat.reduceSubDiff]) <;> (repeat (refine (aw_draw (by kernel_rfl)).2 ?_; simp -dsimp (disch := first | omega | (simp only [wr_id, hx, ← hK, e0, ← hy, List.length_cons, List.length_nil, List.length_map, List.length_append, List.length_take, List.length_drop, List.length_replicate, List.length_set, mkG_len] <;> omega) | fail) only [push_cast, if_pos, decide_eq_true, decide_eq_false, wr_id, hx, ← hK, e0, ← hy, simprocAttr, -Nat.reduceSubDiff]))
    by_cases e1 : s.u = K + 1
    rotate_left
    · rw [if_neg (by simp [hdItem, e1])] at hy
      (simp -dsimp (disch := first | omega | (simp only [wr_id, hx, ← hK, e0, e1, ← hy, List.length_cons, List.length_nil, List.length_map, List.length_append, List.length_take, List.length_drop, List.length_replicate, List.length_set, mkG_len] <;> omega) | fail) only [push_cast, if_pos, decide_eq_true, decide_eq_false, wr_id, hx, ← hK, e0, e1, ← hy, simprocAttr, -Nat.reduceSubDiff]) <;> (repeat (refine (aw_draw (by kernel_rfl)).2 ?_; simp -dsimp (disch := first | omega | (simp only [wr_id, hx, ← hK, e0, e1, ← hy, List.length_cons, List.length_nil, List.length_map, List.length_append, List.length_take, List.length_drop, List.length_replicate, List.length_set, mkG_len] <;> omega) | fail) only [push_cast, if_pos, decide_eq_true, decide_eq_false, wr_id, hx, ← hK, e0, e1, ← hy, simprocAttr, -Nat.reduceSubDiff]))
    rw [if_pos (by simp [hdItem, e0, e1])] at hy
    (simp -dsimp (disch := first | omega | (simp only [wr_id, hx, ← hK, e0, e1, List.length_cons, List.length_nil, List.length_map, List.length_append, List.length_take, List.length_drop, List.length_replicate, List.length_set, mkG_len] <;> omega) | fail) only [push_cast, if_pos, decide_eq_true, decide_eq_false, wr_id, hx, ← hK, e0, e1, simprocAttr, -Nat.reduceSubDiff]) <;> (repeat (refine (aw_draw (by kernel_rfl)).2 ?_; simp -dsimp (disch := first | omega | (simp only [wr_id, hx, ← hK, e0, e1, List.length_cons, List.length_nil, List.length_map, List.length_append, List.length_take, List.length_drop, List.length_replicate, List.length_set, mkG_len] <;> omega) | fail) only [push_cast, if_pos, decide_eq_true, decide_eq_false, wr_id, hx, ← hK, e0, e1, simprocAttr, -Nat.reduceSubDiff]))
    refine ih (i + 1) _ (by omega) ⟨h, by rw [hN, ← hy, hcs]; congr 1; omega⟩ ?_
    simp -dsimp (disch := first | omega | (simp only [wr_id, hN, List.length_cons, List.length_nil, List.length_map, List.length_append, List.length_take, List.length_drop, List.length_replicate, List.length_set, mkG_len] <;> omega) | fail) only [push_cast, if_pos, decide_eq_true, decide_eq_false, wr_id, hN, simprocAttr, -Nat.reduceSubDiff]
  · rw [List.drop_eq_nil_of_le (by omega), hdG, List.take_of_length_le (by omega)] at hy
    simp -dsimp (disch := first | omega | (simp only [← hy, List.take_of_length_le, List.length_cons, List.length_nil, List.length_map, List.length_append, List.length_take, List.length_drop, List.length_replicate, List.length_set, mkG_len] <;> omega) | fail) only [push_cast, if_pos, decide_eq_true, decide_eq_false, ← hy, List.take_of_length_le, simprocAttr, -Nat.reduceSubDiff]
def E34 : Env := { T := T0, kp := look [(0, [0, 1]), (1, [0, 1, 2]), (2, [0, 1, 2]), (3, [0, 1])], md := look3 [(1, 3, [1]), (2, 3, [1])] }
attribute [local push_cast] E34
theorem markStore_run (a : Store) (k : Int) (k0 : 0 ≤ k) (k1 : k + scnStore a < 2305843009213693952) : Does Tryz.prog 34 [.ag (storeC true a), .sc (.int .i64 k)] (.sc (.int .i64 (k + scnStore a)), [some (.ag (storeC true (smkStore a k)))]) := by
  refine does_of (E := E34) (rs := [.tmp 4]) (lent := [true]) tOk rfl Tryz.func34 rfl (by decide) rfl rfl (Nat.le_of_ble_eq_true rfl) (Nat.le_of_ble_eq_true rfl) ?_
  have h_I := cnG_nn (c := cnItem) cnItem_nn a.I
  have h_P := cnG_nn (c := c1) c1_nn a.P
  have hs : k + scnStore a = k + cnG cnItem a.I + cnG c1 a.P := by unfold scnStore; omega
  rw [hs] at k1 ⊢
  (simp -dsimp (disch := first | omega | (simp only [List.length_cons, List.length_nil, List.length_map, List.length_append, List.length_take, List.length_drop, List.length_replicate, List.length_set, mkG_len] <;> omega) | fail) only [push_cast, if_pos, decide_eq_true, decide_eq_false, simprocAttr, -Nat.reduceSubDiff]) <;> (repeat (refine (aw_draw (by kernel_rfl)).2 ?_; simp -dsimp (disch := first | omega | (simp only [List.length_cons, List.length_nil, List.length_map, List.length_append, List.length_take, List.length_drop, List.length_replicate, List.length_set, mkG_len] <;> omega) | fail) only [push_cast, if_pos, decide_eq_true, decide_eq_false, simprocAttr, -Nat.reduceSubDiff]))
  refine callC (markItemS a.I _ (by omega) (by omega)) ?_
  (simp -dsimp (disch := first | omega | (simp only [mkG_len, smkStore, List.length_cons, List.length_nil, List.length_map, List.length_append, List.length_take, List.length_drop, List.length_replicate, List.length_set, mkG_len] <;> omega) | fail) only [push_cast, if_pos, decide_eq_true, decide_eq_false, mkG_len, smkStore, simprocAttr, -Nat.reduceSubDiff]) <;> (repeat (refine (aw_draw (by kernel_rfl)).2 ?_; simp -dsimp (disch := first | omega | (simp only [mkG_len, smkStore, List.length_cons, List.length_nil, List.length_map, List.length_append, List.length_take, List.length_drop, List.length_replicate, List.length_set, mkG_len] <;> omega) | fail) only [push_cast, if_pos, decide_eq_true, decide_eq_false, mkG_len, smkStore, simprocAttr, -Nat.reduceSubDiff]))
  refine callC (markStringS a.P _ (by omega) (by omega)) ?_
  (simp -dsimp (disch := first | omega | (simp only [mkG_len, smkStore, List.length_cons, List.length_nil, List.length_map, List.length_append, List.length_take, List.length_drop, List.length_replicate, List.length_set, mkG_len] <;> omega) | fail) only [push_cast, if_pos, decide_eq_true, decide_eq_false, mkG_len, smkStore, simprocAttr, -Nat.reduceSubDiff]) <;> (repeat (refine (aw_draw (by kernel_rfl)).2 ?_; simp -dsimp (disch := first | omega | (simp only [mkG_len, smkStore, List.length_cons, List.length_nil, List.length_map, List.length_append, List.length_take, List.length_drop, List.length_replicate, List.length_set, mkG_len] <;> omega) | fail) only [push_cast, if_pos, decide_eq_true, decide_eq_false, mkG_len, smkStore, simprocAttr, -Nat.reduceSubDiff]))
def hsStore (a : Store) (k : Int) : Int := if shdStore a k = true then k + scnStore a else -1
theorem hsStore_mk (a : Store) (k : Int) (hk : 0 ≤ k) : hsStore (smkStore a k) k = k + scnStore a := by unfold hsStore; rw [if_pos (shdmk_Store a k hk), scnmk_Store]
def E44 : Env := { T := T0, kp := look [(0, [0, 1]), (1, [1, 2]), (2, [1, 2]), (3, []), (4, [1, 2]), (5, [1]), (6, []), (7, [1])] }
attribute [local push_cast] E44
theorem heldStore_run (a : Store) (k : Int) (k0 : 0 ≤ k) (k1 : k + scnStore a < 2305843009213693952) : Does Tryz.prog 44 [.ag (storeC false a), .sc (.int .i64 k)] (.sc (.int .i64 (hsStore a k)), []) := by
  refine does_of (E := E44) (rs := [.tmp 4]) (lent := []) tOk rfl Tryz.func44 rfl (by decide) rfl rfl (Nat.le_of_ble_eq_true rfl) (Nat.le_of_ble_eq_true rfl) ?_
  have := cnG_nn (c := cnItem) cnItem_nn a.I
  have := cnG_nn (c := c1) c1_nn a.P
  unfold hsStore
  have hs : k + scnStore a = k + cnG cnItem a.I + cnG c1 a.P := by unfold scnStore; omega
  rw [hs] at k1 ⊢
  (simp -dsimp (disch := first | omega | (simp only [wr_id, List.length_cons, List.length_nil, List.length_map, List.length_append, List.length_take, List.length_drop, List.length_replicate, List.length_set, mkG_len] <;> omega) | fail) only [push_cast, if_pos, decide_eq_true, decide_eq_false, wr_id, simprocAttr, -Nat.reduceSubDiff]) <;> (repeat (refine (aw_draw (by kernel_rfl)).2 ?_; simp -dsimp (disch := first | omega | (simp only [wr_id, List.length_cons, List.length_nil, List.length_map, List.length_append, List.length_take, List.length_drop, List.length_replicate, List.length_set, mkG_len] <;> omega) | fail) only [push_cast, if_pos, decide_eq_true, decide_eq_false, wr_id, simprocAttr, -Nat.reduceSubDiff]))
  refine callC (heldItemS a.I _ (by omega) (by omega)) ?_
  by_cases e0 : hdOk hdItem cnItem a.I (k) = true
  rotate_left
  · rw [if_neg (by simp [shdStore, e0])]
    have ev := hdOk_not (c := cnItem) cnItem_nn (by omega) ((Bool.not_eq_true _).mp e0)
    (simp -dsimp (disch := first | omega | (simp only [ev, List.length_cons, List.length_nil, List.length_map, List.length_append, List.length_take, List.length_drop, List.length_replicate, List.length_set, mkG_len] <;> omega) | fail) only [push_cast, if_pos, decide_eq_true, decide_eq_false, ev, simprocAttr, -Nat.reduceSubDiff]) <;> (repeat (refine (aw_draw (by kernel_rfl)).2 ?_; simp -dsimp (disch := first | omega | (simp only [ev, List.length_cons, List.length_nil, List.length_map, List.length_append, List.length_take, List.length_drop, List.length_replicate, List.length_set, mkG_len] <;> omega) | fail) only [push_cast, if_pos, decide_eq_true, decide_eq_false, ev, simprocAttr, -Nat.reduceSubDiff]))
  have e0v := hdOk_val e0
  (simp -dsimp (disch := first | omega | (simp only [wr_id, e0v, List.length_cons, List.length_nil, List.length_map, List.length_append, List.length_take, List.length_drop, List.length_replicate, List.length_set, mkG_len] <;> omega) | fail) only [push_cast, if_pos, decide_eq_true, decide_eq_false, wr_id, e0v, simprocAttr, -Nat.reduceSubDiff]) <;> (repeat (refine (aw_draw (by kernel_rfl)).2 ?_; simp -dsimp (disch := first | omega | (simp only [wr_id, e0v, List.length_cons, List.length_nil, List.length_map, List.length_append, List.length_take, List.length_drop, List.length_replicate, List.length_set, mkG_len] <;> omega) | fail) only [push_cast, if_pos, decide_eq_true, decide_eq_false, wr_id, e0v, simprocAttr, -Nat.reduceSubDiff]))
  refine callC (heldStringS a.P _ (by omega) (by omega)) ?_
  by_cases e1 : hdOk hdStr c1 a.P (k + cnG cnItem a.I) = true
  rotate_left
  · rw [if_neg (by simp [shdStore, e1])]
    have ev := hdOk_not (c := c1) c1_nn (by omega) ((Bool.not_eq_true _).mp e1)
    (simp -dsimp (disch := first | omega | (simp only [ev, List.length_cons, List.length_nil, List.length_map, List.length_append, List.length_take, List.length_drop, List.length_replicate, List.length_set, mkG_len] <;> omega) | fail) only [push_cast, if_pos, decide_eq_true, decide_eq_false, ev, simprocAttr, -Nat.reduceSubDiff]) <;> (repeat (refine (aw_draw (by kernel_rfl)).2 ?_; simp -dsimp (disch := first | omega | (simp only [ev, List.length_cons, List.length_nil, List.length_map, List.length_append, List.length_take, List.length_drop, List.length_replicate, List.length_set, mkG_len] <;> omega) | fail) only [push_cast, if_pos, decide_eq_true, decide_eq_false, ev, simprocAttr, -Nat.reduceSubDiff]))
  have e1v := hdOk_val e1
  rw [if_pos (by simp [shdStore, e0, e1])]
  (simp -dsimp (disch := first | omega | (simp only [wr_id, e1v, List.length_cons, List.length_nil, List.length_map, List.length_append, List.length_take, List.length_drop, List.length_replicate, List.length_set, mkG_len] <;> omega) | fail) only [push_cast, if_pos, decide_eq_true, decide_eq_false, wr_id, e1v, simprocAttr, -Nat.reduceSubDiff]) <;> (repeat (refine (aw_draw (by kernel_rfl)).2 ?_; simp -dsimp (disch := first | omega | (simp only [wr_id, e1v, List.length_cons, List.length_nil, List.length_map, List.length_append, List.length_take, List.length_drop, List.length_replicate, List.length_set, mkG_len] <;> omega) | fail) only [push_cast, if_pos, decide_eq_true, decide_eq_false, wr_id, e1v, simprocAttr, -Nat.reduceSubDiff]))
end Go.Proofs.YtgkncgiglmdnaaaGreatDoor.Mx

/- Stores: valid, copied. -/
namespace Go.Proofs.YtgkncgiglmdnaaaGreatDoor.Mx
set_option linter.all false
open Go Go.RowKit Go.Proofs
set_option linter.unusedSimpArgs false
def E144 : Env := { T := T0, kp := look [(0, [0, 1]), (1, [0, 1]), (2, [0, 1, 7, 8, 9]), (3, [0, 1, 7, 8, 9]), (4, [0, 1, 5, 6, 7, 8, 9]), (5, []), (6, [0, 1, 7, 8, 9]), (7, [])] }
attribute [local push_cast] E144
theorem ascending (l : List Str) (w : Int) (hl : l.length ≤ 2097152) : Does Tryz.prog 144 [.sl false 1 (l.map strR), .sc (.int .i64 w)] (.sc (.bool (ascF w none l)), []) := by
  refine does_of (E := E144) (rs := [.tmp 4]) (lent := []) tOk rfl Tryz.func144 rfl (by decide) rfl rfl (Nat.le_of_ble_eq_true rfl) (Nat.le_of_ble_eq_true rfl) ?_
  generalize hM : ascF w none l = M
  simp -dsimp (disch := first | omega | (simp only [List.length_cons, List.length_nil, List.length_map, List.length_append, List.length_take, List.length_drop, List.length_replicate, List.length_set, mkG_len] <;> omega) | fail) only [push_cast, if_pos, decide_eq_true, decide_eq_false, simprocAttr, -Nat.reduceSubDiff]
  refine loop_ind (α := Nat) (fun i => i ≤ l.length ∧ ascF w (bif i == 0 then none else l[i - 1]?) (l.drop i) = M) (fun i => ⟨[(0, .sl false 1 (l.map strR)), (1, .sc (.int .i64 w)), (7, .sl false 1 (l.map strR)), (8, .sc (.int .i64 l.length)), (9, .sc (.int .i64 i))], [], 1⟩) (fun i => l.length - i) 0 ⟨Nat.zero_le _, hM⟩ ?_ ?_
  · simp -dsimp (disch := first | omega | (simp only [List.length_cons, List.length_nil, List.length_map, List.length_append, List.length_take, List.length_drop, List.length_replicate, List.length_set, mkG_len] <;> omega) | fail) only [push_cast, if_pos, decide_eq_true, decide_eq_false, simprocAttr, -Nat.reduceSubDiff]
  rintro i ⟨hi, hy⟩ ih
  by_cases h : i < l.length
  · obtain ⟨s, hx⟩ := ex_get h
    rw [drop_step hx, ascF] at hy
    have hs : ∀ P, (bif i + 1 == 0 then none else l[i + 1 - 1]?) = P → P = some s := fun P e => by rw [← e, show (i + 1 == 0) = false by simp, cond_false, Nat.add_sub_cancel, hx]
    by_cases e1 : (s.size : Int) = w
    rotate_left
    · rw [show decide ((s.size : Int) = w) = false by simp [e1], Bool.false_and, Bool.false_and] at hy
      simp -dsimp (disch := first | omega | (simp only [hx, e1, ← hy, List.length_cons, List.length_nil, List.length_map, List.length_append, List.length_take, List.length_drop, List.length_replicate, List.length_set, mkG_len] <;> omega) | fail) only [push_cast, if_pos, decide_eq_true, decide_eq_false, hx, e1, ← hy, simprocAttr, -Nat.reduceSubDiff]
    rw [show decide ((s.size : Int) = w) = true by simp [e1], Bool.true_and] at hy
    by_cases e2 : i = 0
    · subst e2
      rw [show aft (bif 0 == 0 then none else l[0 - 1]?) s = true from rfl, Bool.true_and] at hy
      simp -dsimp (disch := first | omega | (simp only [hx, e1, List.length_cons, List.length_nil, List.length_map, List.length_append, List.length_take, List.length_drop, List.length_replicate, List.length_set, mkG_len] <;> omega) | fail) only [push_cast, if_pos, decide_eq_true, decide_eq_false, hx, e1, simprocAttr, -Nat.reduceSubDiff]
      refine ih 1 _ (by omega) ⟨h, by rw [hs _ rfl]; exact hy⟩ ?_
      simp -dsimp (disch := first | omega | (simp only [wr_id, List.length_cons, List.length_nil, List.length_map, List.length_append, List.length_take, List.length_drop, List.length_replicate, List.length_set, mkG_len] <;> omega) | fail) only [push_cast, if_pos, decide_eq_true, decide_eq_false, wr_id, simprocAttr, -Nat.reduceSubDiff]
    · obtain ⟨q, hq⟩ := ex_get (show i - 1 < l.length by omega)
      rw [show (bif i == 0 then none else l[i - 1]?) = some q by rw [show (i == 0) = false by simp [e2]]; exact hq, show aft (some q) s = lts q s from rfl] at hy
      have e3 : ((i : Int) - 1).toNat = i - 1 := by omega
      cases e4 : lts q s with
      | false =>
        rw [e4, Bool.false_and] at hy
        simp -dsimp (disch := first | omega | (simp only [hx, hq, e1, e3, wr_id, e4, ← hy, List.length_cons, List.length_nil, List.length_map, List.length_append, List.length_take, List.length_drop, List.length_replicate, List.length_set, mkG_len] <;> omega) | fail) only [push_cast, if_pos, decide_eq_true, decide_eq_false, hx, hq, e1, e3, wr_id, e4, ← hy, simprocAttr, -Nat.reduceSubDiff]
      | true =>
        rw [e4, Bool.true_and] at hy
        simp -dsimp (disch := first | omega | (simp only [hx, hq, e1, e3, wr_id, e4, List.length_cons, List.length_nil, List.length_map, List.length_append, List.length_take, List.length_drop, List.length_replicate, List.length_set, mkG_len] <;> omega) | fail) only [push_cast, if_pos, decide_eq_true, decide_eq_false, hx, hq, e1, e3, wr_id, e4, simprocAttr, -Nat.reduceSubDiff]
        refine ih (i + 1) _ (by omega) ⟨h, by rw [hs _ rfl]; exact hy⟩ ?_
        simp -dsimp (disch := first | omega | (simp only [wr_id, List.length_cons, List.length_nil, List.length_map, List.length_append, List.length_take, List.length_drop, List.length_replicate, List.length_set, mkG_len] <;> omega) | fail) only [push_cast, if_pos, decide_eq_true, decide_eq_false, wr_id, simprocAttr, -Nat.reduceSubDiff]
  · rw [List.drop_eq_nil_of_le (by omega), ascF] at hy
    simp -dsimp (disch := first | omega | (simp only [← hy, List.length_cons, List.length_nil, List.length_map, List.length_append, List.length_take, List.length_drop, List.length_replicate, List.length_set, mkG_len] <;> omega) | fail) only [push_cast, if_pos, decide_eq_true, decide_eq_false, ← hy, simprocAttr, -Nat.reduceSubDiff]
def E117 : Env := { T := T0, kp := look [(0, [0]), (1, [1]), (2, [1, 3]), (3, [1, 3, 4]), (4, [1, 3, 4]), (5, [1, 3, 4]), (6, [3])] }
attribute [local push_cast] E117
theorem l4Bytes (s : Store) (hs : okStore s) : Does Tryz.prog 117 [.ag (storeC false s)] (.sc (.int .i64 (bytes s.I)), []) := by
  refine does_of (E := E117) (rs := [.tmp 2]) (lent := []) tOk rfl Tryz.func117 rfl (by decide) rfl rfl (Nat.le_of_ble_eq_true rfl) (Nat.le_of_ble_eq_true rfl) ?_
  have hl := hs.1.1
  have hb := bytes_le hs.1
  simp -dsimp (disch := first | omega | (simp only [List.length_cons, List.length_nil, List.length_map, List.length_append, List.length_take, List.length_drop, List.length_replicate, List.length_set, mkG_len] <;> omega) | fail) only [push_cast, if_pos, decide_eq_true, decide_eq_false, simprocAttr, -Nat.reduceSubDiff]
  refine loop_ind (α := Nat) (fun i => i ≤ s.I.length) (fun i => ⟨[(1, .pt 1 0 0), (3, .sc (.int .i64 (bytes (s.I.take i)))), (4, .sc (.int .i64 i))], [(1, .bx (storeC false s))], 2⟩) (fun i => s.I.length - i) 0 (Nat.zero_le _) ?_ ?_
  · simp -dsimp (disch := first | omega | (simp only [List.take_zero, bytes, List.length_cons, List.length_nil, List.length_map, List.length_append, List.length_take, List.length_drop, List.length_replicate, List.length_set, mkG_len] <;> omega) | fail) only [push_cast, if_pos, decide_eq_true, decide_eq_false, List.take_zero, bytes, simprocAttr, -Nat.reduceSubDiff]
  intro i hi ih
  by_cases h : i < s.I.length
  · obtain ⟨x, hx⟩ := ex_get h
    have h1 := bytes_app (s.I.take (i + 1)) (s.I.drop (i + 1))
    have h2 := bytes_app (s.I.take i) [x]
    rw [← take_step hx, bytes, bytes] at h2
    rw [List.take_append_drop] at h1
    have h3 := bytes_nn (s.I.drop (i + 1))
    have h4 := bytes_nn (s.I.take i)
    simp -dsimp (disch := first | omega | (simp only [hx, wr_id, List.length_cons, List.length_nil, List.length_map, List.length_append, List.length_take, List.length_drop, List.length_replicate, List.length_set, mkG_len] <;> omega) | fail) only [push_cast, if_pos, decide_eq_true, decide_eq_false, hx, wr_id, simprocAttr, -Nat.reduceSubDiff]
    refine ih (i + 1) _ (by omega) h ?_
    rw [h2]
    simp -dsimp (disch := first | omega | (simp only [wr_id, Int.add_zero, List.length_cons, List.length_nil, List.length_map, List.length_append, List.length_take, List.length_drop, List.length_replicate, List.length_set, mkG_len] <;> omega) | fail) only [push_cast, if_pos, decide_eq_true, decide_eq_false, wr_id, Int.add_zero, simprocAttr, -Nat.reduceSubDiff]
  · simp -dsimp (disch := first | omega | (simp only [List.take_of_length_le, List.length_cons, List.length_nil, List.length_map, List.length_append, List.length_take, List.length_drop, List.length_replicate, List.length_set, mkG_len] <;> omega) | fail) only [push_cast, if_pos, decide_eq_true, decide_eq_false, List.take_of_length_le, simprocAttr, -Nat.reduceSubDiff]
def E115 : Env := { T := T0, kp := look [(0, [0]), (1, [1, 2]), (2, [1, 2]), (3, [1, 2])] }
attribute [local push_cast] E115
theorem l4Copy (s : Store) (hs : okStore s) : Does Tryz.prog 115 [.ag (storeC false s)] (.ag (storeC true s), []) := by
  refine does_of (E := E115) (rs := [.cell 2 46]) (lent := []) tOk rfl Tryz.func115 rfl (by decide) rfl rfl (Nat.le_of_ble_eq_true rfl) (Nat.le_of_ble_eq_true rfl) ?_
  have hl := hs.1.1
  have hp := hs.2.1
  (simp -dsimp (disch := first | omega | (simp only [List.length_cons, List.length_nil, List.length_map, List.length_append, List.length_take, List.length_drop, List.length_replicate, List.length_set, mkG_len] <;> omega) | fail) only [push_cast, if_pos, decide_eq_true, decide_eq_false, simprocAttr, -Nat.reduceSubDiff]) <;> (repeat (refine (aw_draw (by kernel_rfl)).2 ?_; simp -dsimp (disch := first | omega | (simp only [List.length_cons, List.length_nil, List.length_map, List.length_append, List.length_take, List.length_drop, List.length_replicate, List.length_set, mkG_len] <;> omega) | fail) only [push_cast, if_pos, decide_eq_true, decide_eq_false, simprocAttr, -Nat.reduceSubDiff]))
  rfl
def E120 : Env := { T := T0, kp := look [(0, [0]), (1, [1, 2]), (2, [1, 2]), (3, [1, 2])] }
attribute [local push_cast] E120
theorem copyStore (s : Store) (hs : okStore s) : Does Tryz.prog 120 [.ag (storeC false s)] (.ag (storeC true s), []) := by
  refine does_of (E := E120) (rs := [.cell 2 46]) (lent := []) tOk rfl Tryz.func120 rfl (by decide) rfl rfl (Nat.le_of_ble_eq_true rfl) (Nat.le_of_ble_eq_true rfl) ?_
  have hl := hs.1.1
  have hp := hs.2.1
  (simp -dsimp (disch := first | omega | (simp only [List.length_cons, List.length_nil, List.length_map, List.length_append, List.length_take, List.length_drop, List.length_replicate, List.length_set, mkG_len] <;> omega) | fail) only [push_cast, if_pos, decide_eq_true, decide_eq_false, simprocAttr, -Nat.reduceSubDiff]) <;> (repeat (refine (aw_draw (by kernel_rfl)).2 ?_; simp -dsimp (disch := first | omega | (simp only [List.length_cons, List.length_nil, List.length_map, List.length_append, List.length_take, List.length_drop, List.length_replicate, List.length_set, mkG_len] <;> omega) | fail) only [push_cast, if_pos, decide_eq_true, decide_eq_false, simprocAttr, -Nat.reduceSubDiff]))
  rfl
def E142 : Env := { T := T0, kp := look [(0, [0, 1]), (1, [0, 1]), (2, [0, 1, 5]), (3, [0, 1, 5]), (4, [0, 1, 5]), (5, []), (6, [])] }
attribute [local push_cast] E142
theorem l2In (l : List Str) (s : Str) (hl : l.length ≤ 2097152) : Does Tryz.prog 142 [.sl false 1 (l.map strR), .sc (.string s)] (.sc (.bool (inL l s)), []) := by
  refine does_of (E := E142) (rs := [.tmp 4]) (lent := []) tOk rfl Tryz.func142 rfl (by decide) rfl rfl (Nat.le_of_ble_eq_true rfl) (Nat.le_of_ble_eq_true rfl) ?_
  generalize hM : inL l s = M
  simp -dsimp (disch := first | omega | (simp only [List.length_cons, List.length_nil, List.length_map, List.length_append, List.length_take, List.length_drop, List.length_replicate, List.length_set, mkG_len] <;> omega) | fail) only [push_cast, if_pos, decide_eq_true, decide_eq_false, simprocAttr, -Nat.reduceSubDiff]
  refine loop_ind (α := Nat) (fun i => i ≤ l.length ∧ inL (l.drop i) s = M) (fun i => ⟨[(0, .sl false 1 (l.map strR)), (1, .sc (.string s)), (5, .sc (.int .i64 i))], [], 1⟩) (fun i => l.length - i) 0 ⟨Nat.zero_le _, hM⟩ ?_ ?_
  · simp -dsimp (disch := first | omega | (simp only [List.length_cons, List.length_nil, List.length_map, List.length_append, List.length_take, List.length_drop, List.length_replicate, List.length_set, mkG_len] <;> omega) | fail) only [push_cast, if_pos, decide_eq_true, decide_eq_false, simprocAttr, -Nat.reduceSubDiff]
  rintro i ⟨hi, hy⟩ ih
  by_cases h : i < l.length
  · obtain ⟨x, hx⟩ := ex_get h
    rw [drop_step hx] at hy
    by_cases e : x = s
    · have hy : true = M := by rw [← hy]; simp [inL, e]
      simp -dsimp (disch := first | omega | (simp only [hx, e, ← hy, List.length_cons, List.length_nil, List.length_map, List.length_append, List.length_take, List.length_drop, List.length_replicate, List.length_set, mkG_len] <;> omega) | fail) only [push_cast, if_pos, decide_eq_true, decide_eq_false, hx, e, ← hy, simprocAttr, -Nat.reduceSubDiff]
    · simp -dsimp (disch := first | omega | (simp only [hx, e, List.length_cons, List.length_nil, List.length_map, List.length_append, List.length_take, List.length_drop, List.length_replicate, List.length_set, mkG_len] <;> omega) | fail) only [push_cast, if_pos, decide_eq_true, decide_eq_false, hx, e, simprocAttr, -Nat.reduceSubDiff]
      refine ih (i + 1) _ (by omega) ⟨h, by rw [← hy]; simp [inL, e]⟩ ?_
      simp -dsimp (disch := first | omega | (simp only [wr_id, List.length_cons, List.length_nil, List.length_map, List.length_append, List.length_take, List.length_drop, List.length_replicate, List.length_set, mkG_len] <;> omega) | fail) only [push_cast, if_pos, decide_eq_true, decide_eq_false, wr_id, simprocAttr, -Nat.reduceSubDiff]
  · rw [List.drop_eq_nil_of_le (by omega)] at hy
    have hy : false = M := by rw [← hy]; rfl
    simp -dsimp (disch := first | omega | (simp only [← hy, List.length_cons, List.length_nil, List.length_map, List.length_append, List.length_take, List.length_drop, List.length_replicate, List.length_set, mkG_len] <;> omega) | fail) only [push_cast, if_pos, decide_eq_true, decide_eq_false, ← hy, simprocAttr, -Nat.reduceSubDiff]
def E100 : Env := { T := T0, kp := look [(0, [0]), (1, [1]), (2, []), (3, [1]), (4, [1, 3]), (5, [1, 3, 4]), (6, [1, 3, 4]), (7, [1, 3, 4]), (8, [1, 3, 4, 5]), (9, [1, 3, 4, 5, 6]), (10, []), (11, [1, 4, 6]), (12, [1]), (13, [1, 7]), (14, [1, 7]), (15, [1, 7]), (16, []), (17, [1])], dp := look2 [(15, [[], [0], [], [0, 1, 2], [0, 1, 2, 3], [0, 1, 2, 3, 4], [], [6], [0, 1, 2, 3, 4, 5, 6, 7], [0, 1, 2, 3, 4, 5, 6, 7, 8], [0, 1, 2, 3, 4, 5, 6, 7, 8, 9], [0, 1, 2, 3, 4, 5, 6, 7, 8, 9, 10], [0, 1, 2, 3, 4, 5, 6, 7, 8, 9, 10, 11], [0, 1, 2, 3, 4, 5, 6, 7, 8, 9, 10, 11, 12], [0, 1, 2, 3, 4, 5, 6, 7, 8, 9, 10, 11, 12, 13], [0, 1, 2, 3, 4, 5, 6, 7, 8, 9, 10, 11, 12], [0, 1, 2, 3, 4, 5, 6, 7, 8, 9, 10, 11, 12, 15], [0, 1, 2, 3, 4, 5, 6, 7, 8, 9, 10, 11, 12, 13, 14, 15, 16], [0, 1, 2, 3, 4, 5, 6, 7, 8, 9, 10, 11, 12, 13, 14, 15, 16, 17], [0, 1, 2, 3, 4, 5, 6, 7, 8, 9, 10, 11, 12], [0, 1, 2, 3, 4, 5, 6, 7, 8, 9, 10, 11, 12, 19], [0, 1, 2, 3, 4, 5, 6, 7, 8, 9, 10, 11, 12], [0, 1, 2, 3, 4, 5, 6, 7, 8, 9, 10, 11, 12, 19, 20, 21], [0, 1, 2, 3, 4, 5, 6, 7, 8, 9, 10, 11, 12, 19, 20, 21, 22], [0, 1, 2, 3, 4, 5, 6, 7, 8, 9, 10, 11, 12, 13, 14, 15, 16, 17, 18, 19, 20, 21, 22, 23], [0, 1, 2, 3, 4, 5, 6, 7, 8, 9, 10, 11, 12, 13, 14, 15, 16, 17, 18, 19, 20, 21, 22, 23, 24], [0, 1, 2, 3, 4, 5, 6, 7, 8, 9, 10, 11, 12, 13, 14, 15, 16, 17, 18, 19, 20, 21, 22, 23, 24, 25]]), (17, [[], [0], [], [2], [0, 1, 2, 3], [0, 1, 2, 3, 4]])] }
attribute [local push_cast] E100
set_option maxHeartbeats 1000000 in
theorem specValidStore (s : Store) (hs : okStore s) : Does Tryz.prog 100 [.ag (storeC false s)] (.sc (.bool (validSt s)), []) := by
  refine does_of (E := E100) (rs := [.tmp 2]) (lent := []) tOk rfl Tryz.func100 rfl (by decide) rfl rfl (Nat.le_of_ble_eq_true rfl) (Nat.le_of_ble_eq_true rfl) ?_
  have hl := hs.1.1
  have hp := hs.2.1
  (simp -dsimp (disch := first | omega | (simp only [List.length_cons, List.length_nil, List.length_map, List.length_append, List.length_take, List.length_drop, List.length_replicate, List.length_set, mkG_len] <;> omega) | fail) only [push_cast, if_pos, decide_eq_true, decide_eq_false, simprocAttr, -Nat.reduceSubDiff]) <;> (repeat (refine (aw_draw (by kernel_rfl)).2 ?_; simp -dsimp (disch := first | omega | (simp only [List.length_cons, List.length_nil, List.length_map, List.length_append, List.length_take, List.length_drop, List.length_replicate, List.length_set, mkG_len] <;> omega) | fail) only [push_cast, if_pos, decide_eq_true, decide_eq_false, simprocAttr, -Nat.reduceSubDiff]))
  refine callC (l1Width ..) ?_
  by_cases c1 : inB s.w 1 8 = true
  rotate_left
  · have hv : validSt s = false := by simp [validSt, c1]
    (simp -dsimp (disch := first | omega | (simp only [c1, hv, List.length_cons, List.length_nil, List.length_map, List.length_append, List.length_take, List.length_drop, List.length_replicate, List.length_set, mkG_len] <;> omega) | fail) only [push_cast, if_pos, decide_eq_true, decide_eq_false, c1, hv, simprocAttr, -Nat.reduceSubDiff]) <;> (repeat (refine (aw_draw (by kernel_rfl)).2 ?_; simp -dsimp (disch := first | omega | (simp only [c1, hv, List.length_cons, List.length_nil, List.length_map, List.length_append, List.length_take, List.length_drop, List.length_replicate, List.length_set, mkG_len] <;> omega) | fail) only [push_cast, if_pos, decide_eq_true, decide_eq_false, c1, hv, simprocAttr, -Nat.reduceSubDiff]))
  (simp -dsimp (disch := first | omega | (simp only [c1, List.length_cons, List.length_nil, List.length_map, List.length_append, List.length_take, List.length_drop, List.length_replicate, List.length_set, mkG_len] <;> omega) | fail) only [push_cast, if_pos, decide_eq_true, decide_eq_false, c1, simprocAttr, -Nat.reduceSubDiff]) <;> (repeat (refine (aw_draw (by kernel_rfl)).2 ?_; simp -dsimp (disch := first | omega | (simp only [c1, List.length_cons, List.length_nil, List.length_map, List.length_append, List.length_take, List.length_drop, List.length_replicate, List.length_set, mkG_len] <;> omega) | fail) only [push_cast, if_pos, decide_eq_true, decide_eq_false, c1, simprocAttr, -Nat.reduceSubDiff]))
  refine callC (l1In ..) ?_
  by_cases c2 : inB s.r 0 60000 = true
  rotate_left
  · have hv : validSt s = false := by simp [validSt, c2]
    (simp -dsimp (disch := first | omega | (simp only [c2, hv, List.length_cons, List.length_nil, List.length_map, List.length_append, List.length_take, List.length_drop, List.length_replicate, List.length_set, mkG_len] <;> omega) | fail) only [push_cast, if_pos, decide_eq_true, decide_eq_false, c2, hv, simprocAttr, -Nat.reduceSubDiff]) <;> (repeat (refine (aw_draw (by kernel_rfl)).2 ?_; simp -dsimp (disch := first | omega | (simp only [c2, hv, List.length_cons, List.length_nil, List.length_map, List.length_append, List.length_take, List.length_drop, List.length_replicate, List.length_set, mkG_len] <;> omega) | fail) only [push_cast, if_pos, decide_eq_true, decide_eq_false, c2, hv, simprocAttr, -Nat.reduceSubDiff]))
  by_cases c3 : s.I.length ≤ 1000
  rotate_left
  · have hv : validSt s = false := by simp [validSt, c3]
    (simp -dsimp (disch := first | omega | (simp only [c2, hv, List.length_cons, List.length_nil, List.length_map, List.length_append, List.length_take, List.length_drop, List.length_replicate, List.length_set, mkG_len] <;> omega) | fail) only [push_cast, if_pos, decide_eq_true, decide_eq_false, c2, hv, simprocAttr, -Nat.reduceSubDiff]) <;> (repeat (refine (aw_draw (by kernel_rfl)).2 ?_; simp -dsimp (disch := first | omega | (simp only [c2, hv, List.length_cons, List.length_nil, List.length_map, List.length_append, List.length_take, List.length_drop, List.length_replicate, List.length_set, mkG_len] <;> omega) | fail) only [push_cast, if_pos, decide_eq_true, decide_eq_false, c2, hv, simprocAttr, -Nat.reduceSubDiff]))
  by_cases c4 : s.P.length ≤ 10
  rotate_left
  · have hv : validSt s = false := by simp [validSt, c4]
    (simp -dsimp (disch := first | omega | (simp only [c2, hv, List.length_cons, List.length_nil, List.length_map, List.length_append, List.length_take, List.length_drop, List.length_replicate, List.length_set, mkG_len] <;> omega) | fail) only [push_cast, if_pos, decide_eq_true, decide_eq_false, c2, hv, simprocAttr, -Nat.reduceSubDiff]) <;> (repeat (refine (aw_draw (by kernel_rfl)).2 ?_; simp -dsimp (disch := first | omega | (simp only [c2, hv, List.length_cons, List.length_nil, List.length_map, List.length_append, List.length_take, List.length_drop, List.length_replicate, List.length_set, mkG_len] <;> omega) | fail) only [push_cast, if_pos, decide_eq_true, decide_eq_false, c2, hv, simprocAttr, -Nat.reduceSubDiff]))
  obtain ⟨R, hR⟩ : ∃ R, R = (ascF s.w none s.P && decide (bytes s.I ≤ s.r)) := ⟨_, rfl⟩
  obtain ⟨M, hM⟩ : ∃ M, M = validSt s := ⟨_, rfl⟩
  rw [← hM]
  have hv : (itF s.w none s.I && R) = M := by
    simp only [hM, validSt, c1, c2, c3, c4, hR, decide_true, Bool.true_and]
    cases itF s.w none s.I <;> simp
  clear hM
  (simp -dsimp (disch := first | omega | (simp only [c2, List.length_cons, List.length_nil, List.length_map, List.length_append, List.length_take, List.length_drop, List.length_replicate, List.length_set, mkG_len] <;> omega) | fail) only [push_cast, if_pos, decide_eq_true, decide_eq_false, c2, simprocAttr, -Nat.reduceSubDiff]) <;> (repeat (refine (aw_draw (by kernel_rfl)).2 ?_; simp -dsimp (disch := first | omega | (simp only [c2, List.length_cons, List.length_nil, List.length_map, List.length_append, List.length_take, List.length_drop, List.length_replicate, List.length_set, mkG_len] <;> omega) | fail) only [push_cast, if_pos, decide_eq_true, decide_eq_false, c2, simprocAttr, -Nat.reduceSubDiff]))
  refine loop_ind (α := Nat × Option Str) (fun p => p.1 ≤ s.I.length ∧ (p.2 = none ↔ p.1 = 0) ∧ (itF s.w p.2 (s.I.drop p.1) && R) = M) (fun p => ⟨[(1, .pt 1 0 0), (3, .sc (.string (p.2.getD em))), (4, .sc (.int .i64 p.1))], [(1, .bx (storeC false s))], 2⟩) (fun p => s.I.length - p.1) (0, none) ⟨Nat.zero_le _, by simp, hv⟩ ?_ ?_
  · simp -dsimp (disch := first | omega | (simp only [em, List.length_cons, List.length_nil, List.length_map, List.length_append, List.length_take, List.length_drop, List.length_replicate, List.length_set, mkG_len] <;> omega) | fail) only [push_cast, if_pos, decide_eq_true, decide_eq_false, em, simprocAttr, -Nat.reduceSubDiff]
  rintro ⟨i, p⟩ ⟨hi, hp0, hy⟩ ih
  dsimp only at hi hp0 hy
  by_cases h : i < s.I.length
  · obtain ⟨x, hx⟩ := ex_get h
    have hxb : x.t.size ≤ 2097152 := hs.1.2 x (List.mem_of_getElem? hx)
    rw [drop_step hx, itF] at hy
    simp -dsimp (disch := first | omega | (simp only [hx, List.length_cons, List.length_nil, List.length_map, List.length_append, List.length_take, List.length_drop, List.length_replicate, List.length_set, mkG_len] <;> omega) | fail) only [push_cast, if_pos, decide_eq_true, decide_eq_false, hx, simprocAttr, -Nat.reduceSubDiff]
    refine callC (specSum _ _ (by omega)) ?_
    simp -dsimp (disch := first | omega | (simp only [List.length_cons, List.length_nil, List.length_map, List.length_append, List.length_take, List.length_drop, List.length_replicate, List.length_set, mkG_len] <;> omega) | fail) only [push_cast, if_pos, decide_eq_true, decide_eq_false, simprocAttr, -Nat.reduceSubDiff]
    refine callC (l1In ..) ?_
    cases d1 : inB x.t.size 1 7000 with
    | false =>
      rw [d1, Bool.false_and, Bool.false_and, Bool.false_and, Bool.false_and] at hy
      (simp -dsimp (disch := first | omega | (simp only [← hy, List.length_cons, List.length_nil, List.length_map, List.length_append, List.length_take, List.length_drop, List.length_replicate, List.length_set, mkG_len] <;> omega) | fail) only [push_cast, if_pos, decide_eq_true, decide_eq_false, ← hy, simprocAttr, -Nat.reduceSubDiff]) <;> (repeat (refine (aw_draw (by kernel_rfl)).2 ?_; simp -dsimp (disch := first | omega | (simp only [← hy, List.length_cons, List.length_nil, List.length_map, List.length_append, List.length_take, List.length_drop, List.length_replicate, List.length_set, mkG_len] <;> omega) | fail) only [push_cast, if_pos, decide_eq_true, decide_eq_false, ← hy, simprocAttr, -Nat.reduceSubDiff]))
    | true =>
    rw [d1, Bool.true_and] at hy
    simp -dsimp (disch := first | omega | (simp only [List.length_cons, List.length_nil, List.length_map, List.length_append, List.length_take, List.length_drop, List.length_replicate, List.length_set, mkG_len] <;> omega) | fail) only [push_cast, if_pos, decide_eq_true, decide_eq_false, simprocAttr, -Nat.reduceSubDiff]
    refine callC (l1In ..) ?_
    cases d2 : inB x.u 0 1000000 with
    | false =>
      rw [d2, Bool.false_and, Bool.false_and, Bool.false_and] at hy
      (simp -dsimp (disch := first | omega | (simp only [← hy, List.length_cons, List.length_nil, List.length_map, List.length_append, List.length_take, List.length_drop, List.length_replicate, List.length_set, mkG_len] <;> omega) | fail) only [push_cast, if_pos, decide_eq_true, decide_eq_false, ← hy, simprocAttr, -Nat.reduceSubDiff]) <;> (repeat (refine (aw_draw (by kernel_rfl)).2 ?_; simp -dsimp (disch := first | omega | (simp only [← hy, List.length_cons, List.length_nil, List.length_map, List.length_append, List.length_take, List.length_drop, List.length_replicate, List.length_set, mkG_len] <;> omega) | fail) only [push_cast, if_pos, decide_eq_true, decide_eq_false, ← hy, simprocAttr, -Nat.reduceSubDiff]))
    | true =>
    rw [d2, Bool.true_and] at hy
    cases p with
    | none =>
      obtain rfl := hp0.1 rfl
      rw [show aft none (sumS x.t s.w) = true from rfl, Bool.true_and] at hy
      simp -dsimp (disch := first | omega | (simp only [List.length_cons, List.length_nil, List.length_map, List.length_append, List.length_take, List.length_drop, List.length_replicate, List.length_set, mkG_len] <;> omega) | fail) only [push_cast, if_pos, decide_eq_true, decide_eq_false, simprocAttr, -Nat.reduceSubDiff]
      refine ih (1, some (sumS x.t s.w)) _ (by simp; omega) ⟨h, by simp, hy⟩ ?_
      simp -dsimp (disch := first | omega | (simp only [wr_id, List.length_cons, List.length_nil, List.length_map, List.length_append, List.length_take, List.length_drop, List.length_replicate, List.length_set, mkG_len] <;> omega) | fail) only [push_cast, if_pos, decide_eq_true, decide_eq_false, wr_id, simprocAttr, -Nat.reduceSubDiff]
    | some q =>
      have hi0 : i ≠ 0 := fun e => by have := hp0.2 e; cases this
      cases d3 : lts q (sumS x.t s.w) with
      | false =>
        rw [show aft (some q) (sumS x.t s.w) = lts q (sumS x.t s.w) from rfl, d3, Bool.false_and, Bool.false_and] at hy
        (simp -dsimp (disch := first | omega | (simp only [d3, ← hy, List.length_cons, List.length_nil, List.length_map, List.length_append, List.length_take, List.length_drop, List.length_replicate, List.length_set, mkG_len] <;> omega) | fail) only [push_cast, if_pos, decide_eq_true, decide_eq_false, d3, ← hy, simprocAttr, -Nat.reduceSubDiff]) <;> (repeat (refine (aw_draw (by kernel_rfl)).2 ?_; simp -dsimp (disch := first | omega | (simp only [d3, ← hy, List.length_cons, List.length_nil, List.length_map, List.length_append, List.length_take, List.length_drop, List.length_replicate, List.length_set, mkG_len] <;> omega) | fail) only [push_cast, if_pos, decide_eq_true, decide_eq_false, d3, ← hy, simprocAttr, -Nat.reduceSubDiff]))
      | true =>
        rw [show aft (some q) (sumS x.t s.w) = lts q (sumS x.t s.w) from rfl, d3, Bool.true_and] at hy
        simp -dsimp (disch := first | omega | (simp only [d3, List.length_cons, List.length_nil, List.length_map, List.length_append, List.length_take, List.length_drop, List.length_replicate, List.length_set, mkG_len] <;> omega) | fail) only [push_cast, if_pos, decide_eq_true, decide_eq_false, d3, simprocAttr, -Nat.reduceSubDiff]
        refine ih (i + 1, some (sumS x.t s.w)) _ (by simp; omega) ⟨h, by simp, hy⟩ ?_
        simp -dsimp (disch := first | omega | (simp only [wr_id, List.length_cons, List.length_nil, List.length_map, List.length_append, List.length_take, List.length_drop, List.length_replicate, List.length_set, mkG_len] <;> omega) | fail) only [push_cast, if_pos, decide_eq_true, decide_eq_false, wr_id, simprocAttr, -Nat.reduceSubDiff]
  rw [List.drop_eq_nil_of_le (by omega), itF, Bool.true_and] at hy
  obtain ⟨B, hB⟩ : ∃ B, B = decide (bytes s.I ≤ s.r) := ⟨_, rfl⟩
  rw [← hB] at hR
  rw [hR] at hy
  simp -dsimp (disch := first | omega | (simp only [List.length_cons, List.length_nil, List.length_map, List.length_append, List.length_take, List.length_drop, List.length_replicate, List.length_set, mkG_len] <;> omega) | fail) only [push_cast, if_pos, decide_eq_true, decide_eq_false, simprocAttr, -Nat.reduceSubDiff]
  refine loop_ind (α := Nat) (fun i => i ≤ s.P.length ∧ (ascF s.w (bif i == 0 then none else s.P[i - 1]?) (s.P.drop i) && B) = M) (fun i => ⟨[(1, .pt 1 0 0), (7, .sc (.int .i64 i))], [(1, .bx (storeC false s))], 2⟩) (fun i => s.P.length - i) 0 ⟨Nat.zero_le _, hy⟩ ?_ ?_
  · simp -dsimp (disch := first | omega | (simp only [List.length_cons, List.length_nil, List.length_map, List.length_append, List.length_take, List.length_drop, List.length_replicate, List.length_set, mkG_len] <;> omega) | fail) only [push_cast, if_pos, decide_eq_true, decide_eq_false, simprocAttr, -Nat.reduceSubDiff]
  clear hy hi hp0 ih h
  rintro i ⟨hi, hy⟩ ih
  by_cases h : i < s.P.length
  · obtain ⟨x, hx⟩ := ex_get h
    rw [drop_step hx, ascF] at hy
    have hs : ∀ P, (bif i + 1 == 0 then none else s.P[i + 1 - 1]?) = P → P = some x := fun P e => by rw [← e, show (i + 1 == 0) = false by simp, cond_false, Nat.add_sub_cancel, hx]
    by_cases e1 : (x.size : Int) = s.w
    rotate_left
    · rw [show decide ((x.size : Int) = s.w) = false by simp [e1], Bool.false_and, Bool.false_and, Bool.false_and] at hy
      (simp -dsimp (disch := first | omega | (simp only [hx, e1, ← hy, List.length_cons, List.length_nil, List.length_map, List.length_append, List.length_take, List.length_drop, List.length_replicate, List.length_set, mkG_len] <;> omega) | fail) only [push_cast, if_pos, decide_eq_true, decide_eq_false, hx, e1, ← hy, simprocAttr, -Nat.reduceSubDiff]) <;> (repeat (refine (aw_draw (by kernel_rfl)).2 ?_; simp -dsimp (disch := first | omega | (simp only [hx, e1, ← hy, List.length_cons, List.length_nil, List.length_map, List.length_append, List.length_take, List.length_drop, List.length_replicate, List.length_set, mkG_len] <;> omega) | fail) only [push_cast, if_pos, decide_eq_true, decide_eq_false, hx, e1, ← hy, simprocAttr, -Nat.reduceSubDiff]))
    rw [show decide ((x.size : Int) = s.w) = true by simp [e1], Bool.true_and] at hy
    by_cases e2 : i = 0
    · subst e2
      rw [show aft (bif 0 == 0 then none else s.P[0 - 1]?) x = true from rfl, Bool.true_and] at hy
      (simp -dsimp (disch := first | omega | (simp only [hx, e1, List.length_cons, List.length_nil, List.length_map, List.length_append, List.length_take, List.length_drop, List.length_replicate, List.length_set, mkG_len] <;> omega) | fail) only [push_cast, if_pos, decide_eq_true, decide_eq_false, hx, e1, simprocAttr, -Nat.reduceSubDiff]) <;> (repeat (refine (aw_draw (by kernel_rfl)).2 ?_; simp -dsimp (disch := first | omega | (simp only [hx, e1, List.length_cons, List.length_nil, List.length_map, List.length_append, List.length_take, List.length_drop, List.length_replicate, List.length_set, mkG_len] <;> omega) | fail) only [push_cast, if_pos, decide_eq_true, decide_eq_false, hx, e1, simprocAttr, -Nat.reduceSubDiff]))
      refine ih 1 _ (by omega) ⟨h, by rw [hs _ rfl]; exact hy⟩ ?_
      simp -dsimp (disch := first | omega | (simp only [wr_id, List.length_cons, List.length_nil, List.length_map, List.length_append, List.length_take, List.length_drop, List.length_replicate, List.length_set, mkG_len] <;> omega) | fail) only [push_cast, if_pos, decide_eq_true, decide_eq_false, wr_id, simprocAttr, -Nat.reduceSubDiff]
    · obtain ⟨q, hq⟩ := ex_get (show i - 1 < s.P.length by omega)
      rw [show (bif i == 0 then none else s.P[i - 1]?) = some q by rw [show (i == 0) = false by simp [e2]]; exact hq, show aft (some q) x = lts q x from rfl] at hy
      have e3 : ((i : Int) - 1).toNat = i - 1 := by omega
      cases e4 : lts q x with
      | false =>
        rw [e4, Bool.false_and, Bool.false_and] at hy
        (simp -dsimp (disch := first | omega | (simp only [hx, hq, e1, e3, wr_id, e4, ← hy, List.length_cons, List.length_nil, List.length_map, List.length_append, List.length_take, List.length_drop, List.length_replicate, List.length_set, mkG_len] <;> omega) | fail) only [push_cast, if_pos, decide_eq_true, decide_eq_false, hx, hq, e1, e3, wr_id, e4, ← hy, simprocAttr, -Nat.reduceSubDiff]) <;> (repeat (refine (aw_draw (by kernel_rfl)).2 ?_; simp -dsimp (disch := first | omega | (simp only [hx, hq, e1, e3, wr_id, e4, ← hy, List.length_cons, List.length_nil, List.length_map, List.length_append, List.length_take, List.length_drop, List.length_replicate, List.length_set, mkG_len] <;> omega) | fail) only [push_cast, if_pos, decide_eq_true, decide_eq_false, hx, hq, e1, e3, wr_id, e4, ← hy, simprocAttr, -Nat.reduceSubDiff]))
      | true =>
        rw [e4, Bool.true_and] at hy
        (simp -dsimp (disch := first | omega | (simp only [hx, hq, e1, e3, wr_id, e4, List.length_cons, List.length_nil, List.length_map, List.length_append, List.length_take, List.length_drop, List.length_replicate, List.length_set, mkG_len] <;> omega) | fail) only [push_cast, if_pos, decide_eq_true, decide_eq_false, hx, hq, e1, e3, wr_id, e4, simprocAttr, -Nat.reduceSubDiff]) <;> (repeat (refine (aw_draw (by kernel_rfl)).2 ?_; simp -dsimp (disch := first | omega | (simp only [hx, hq, e1, e3, wr_id, e4, List.length_cons, List.length_nil, List.length_map, List.length_append, List.length_take, List.length_drop, List.length_replicate, List.length_set, mkG_len] <;> omega) | fail) only [push_cast, if_pos, decide_eq_true, decide_eq_false, hx, hq, e1, e3, wr_id, e4, simprocAttr, -Nat.reduceSubDiff]))
        refine ih (i + 1) _ (by omega) ⟨h, by rw [hs _ rfl]; exact hy⟩ ?_
        simp -dsimp (disch := first | omega | (simp only [wr_id, List.length_cons, List.length_nil, List.length_map, List.length_append, List.length_take, List.length_drop, List.length_replicate, List.length_set, mkG_len] <;> omega) | fail) only [push_cast, if_pos, decide_eq_true, decide_eq_false, wr_id, simprocAttr, -Nat.reduceSubDiff]
  · rw [List.drop_eq_nil_of_le (by omega), ascF, Bool.true_and] at hy
    (simp -dsimp (disch := first | omega | (simp only [List.length_cons, List.length_nil, List.length_map, List.length_append, List.length_take, List.length_drop, List.length_replicate, List.length_set, mkG_len] <;> omega) | fail) only [push_cast, if_pos, decide_eq_true, decide_eq_false, simprocAttr, -Nat.reduceSubDiff]) <;> (repeat (refine (aw_draw (by kernel_rfl)).2 ?_; simp -dsimp (disch := first | omega | (simp only [List.length_cons, List.length_nil, List.length_map, List.length_append, List.length_take, List.length_drop, List.length_replicate, List.length_set, mkG_len] <;> omega) | fail) only [push_cast, if_pos, decide_eq_true, decide_eq_false, simprocAttr, -Nat.reduceSubDiff]))
    refine callC (l4Bytes s hs) ?_
    (simp -dsimp (disch := first | omega | (simp only [← hy, hB, List.length_cons, List.length_nil, List.length_map, List.length_append, List.length_take, List.length_drop, List.length_replicate, List.length_set, mkG_len] <;> omega) | fail) only [push_cast, if_pos, decide_eq_true, decide_eq_false, ← hy, hB, simprocAttr, -Nat.reduceSubDiff]) <;> (repeat (refine (aw_draw (by kernel_rfl)).2 ?_; simp -dsimp (disch := first | omega | (simp only [← hy, hB, List.length_cons, List.length_nil, List.length_map, List.length_append, List.length_take, List.length_drop, List.length_replicate, List.length_set, mkG_len] <;> omega) | fail) only [push_cast, if_pos, decide_eq_true, decide_eq_false, ← hy, hB, simprocAttr, -Nat.reduceSubDiff]))
end Go.Proofs.YtgkncgiglmdnaaaGreatDoor.Mx

/- Stores: valid (the program's). -/
namespace Go.Proofs.YtgkncgiglmdnaaaGreatDoor.Mx
set_option linter.all false
open Go Go.RowKit Go.Proofs
set_option linter.unusedSimpArgs false
theorem inB_def (a b c : Int) : inB a b c = (decide (b ≤ a) && decide (a ≤ c)) := by
  unfold inB; by_cases h : b ≤ a <;> by_cases h2 : a ≤ c <;> simp [h, h2]
def E104 : Env := { T := T0, kp := look [(0, [0]), (1, [1]), (2, []), (3, [1]), (4, [1, 3]), (5, [1, 3, 4]), (6, [1, 3, 4, 43, 44, 45]), (7, [1, 3, 4, 43, 44, 45]), (8, [1, 3, 4, 5, 6, 43, 44, 45]), (9, [1, 3, 4, 5, 6, 7, 43, 44, 45]), (10, []), (11, [1, 3, 6, 7, 43, 44, 45]), (12, [1, 3, 4, 6, 43, 44, 45]), (13, [1, 3, 4, 43, 44, 45]), (14, [1, 3])] }
attribute [local push_cast] E104
set_option maxHeartbeats 1000000 in
theorem implValidStore (s : Store) (hs : okStore s) : Does Tryz.prog 104 [.ag (storeC false s)] (.sc (.bool (validSt s)), []) := by
  refine does_of (E := E104) (rs := [.tmp 2]) (lent := []) tOk rfl Tryz.func104 rfl (by decide) rfl rfl (Nat.le_of_ble_eq_true rfl) (Nat.le_of_ble_eq_true rfl) ?_
  have hl := hs.1.1
  have hp := hs.2.1
  have hbb := bytes_le hs.1
  (simp -dsimp (disch := first | omega | (simp only [List.length_cons, List.length_nil, List.length_map, List.length_append, List.length_take, List.length_drop, List.length_replicate, List.length_set, mkG_len] <;> omega) | fail) only [push_cast, if_pos, decide_eq_true, decide_eq_false, simprocAttr, -Nat.reduceSubDiff]) <;> (repeat (refine (aw_draw (by kernel_rfl)).2 ?_; simp -dsimp (disch := first | omega | (simp only [List.length_cons, List.length_nil, List.length_map, List.length_append, List.length_take, List.length_drop, List.length_replicate, List.length_set, mkG_len] <;> omega) | fail) only [push_cast, if_pos, decide_eq_true, decide_eq_false, simprocAttr, -Nat.reduceSubDiff]))
  refine callC (widthOk ..) ?_
  by_cases c1 : inB s.w 1 8 = true
  rotate_left
  · have hv : validSt s = false := by simp [validSt, c1]
    (simp -dsimp (disch := first | omega | (simp only [c1, hv, List.length_cons, List.length_nil, List.length_map, List.length_append, List.length_take, List.length_drop, List.length_replicate, List.length_set, mkG_len] <;> omega) | fail) only [push_cast, if_pos, decide_eq_true, decide_eq_false, c1, hv, simprocAttr, -Nat.reduceSubDiff]) <;> (repeat (refine (aw_draw (by kernel_rfl)).2 ?_; simp -dsimp (disch := first | omega | (simp only [c1, hv, List.length_cons, List.length_nil, List.length_map, List.length_append, List.length_take, List.length_drop, List.length_replicate, List.length_set, mkG_len] <;> omega) | fail) only [push_cast, if_pos, decide_eq_true, decide_eq_false, c1, hv, simprocAttr, -Nat.reduceSubDiff]))
  by_cases c2 : 0 ≤ s.r
  rotate_left
  · have hv : validSt s = false := by simp [validSt, inB_def, c2]
    (simp -dsimp (disch := first | omega | (simp only [c1, hv, List.length_cons, List.length_nil, List.length_map, List.length_append, List.length_take, List.length_drop, List.length_replicate, List.length_set, mkG_len] <;> omega) | fail) only [push_cast, if_pos, decide_eq_true, decide_eq_false, c1, hv, simprocAttr, -Nat.reduceSubDiff]) <;> (repeat (refine (aw_draw (by kernel_rfl)).2 ?_; simp -dsimp (disch := first | omega | (simp only [c1, hv, List.length_cons, List.length_nil, List.length_map, List.length_append, List.length_take, List.length_drop, List.length_replicate, List.length_set, mkG_len] <;> omega) | fail) only [push_cast, if_pos, decide_eq_true, decide_eq_false, c1, hv, simprocAttr, -Nat.reduceSubDiff]))
  by_cases c2b : s.r ≤ 60000
  rotate_left
  · have hv : validSt s = false := by simp [validSt, inB_def, c2b]
    (simp -dsimp (disch := first | omega | (simp only [c1, hv, List.length_cons, List.length_nil, List.length_map, List.length_append, List.length_take, List.length_drop, List.length_replicate, List.length_set, mkG_len] <;> omega) | fail) only [push_cast, if_pos, decide_eq_true, decide_eq_false, c1, hv, simprocAttr, -Nat.reduceSubDiff]) <;> (repeat (refine (aw_draw (by kernel_rfl)).2 ?_; simp -dsimp (disch := first | omega | (simp only [c1, hv, List.length_cons, List.length_nil, List.length_map, List.length_append, List.length_take, List.length_drop, List.length_replicate, List.length_set, mkG_len] <;> omega) | fail) only [push_cast, if_pos, decide_eq_true, decide_eq_false, c1, hv, simprocAttr, -Nat.reduceSubDiff]))
  by_cases c3 : s.I.length ≤ 1000
  rotate_left
  · have hv : validSt s = false := by simp [validSt, c3]
    (simp -dsimp (disch := first | omega | (simp only [c1, hv, List.length_cons, List.length_nil, List.length_map, List.length_append, List.length_take, List.length_drop, List.length_replicate, List.length_set, mkG_len] <;> omega) | fail) only [push_cast, if_pos, decide_eq_true, decide_eq_false, c1, hv, simprocAttr, -Nat.reduceSubDiff]) <;> (repeat (refine (aw_draw (by kernel_rfl)).2 ?_; simp -dsimp (disch := first | omega | (simp only [c1, hv, List.length_cons, List.length_nil, List.length_map, List.length_append, List.length_take, List.length_drop, List.length_replicate, List.length_set, mkG_len] <;> omega) | fail) only [push_cast, if_pos, decide_eq_true, decide_eq_false, c1, hv, simprocAttr, -Nat.reduceSubDiff]))
  by_cases c4 : s.P.length ≤ 10
  rotate_left
  · have hv : validSt s = false := by simp [validSt, c4]
    (simp -dsimp (disch := first | omega | (simp only [c1, hv, List.length_cons, List.length_nil, List.length_map, List.length_append, List.length_take, List.length_drop, List.length_replicate, List.length_set, mkG_len] <;> omega) | fail) only [push_cast, if_pos, decide_eq_true, decide_eq_false, c1, hv, simprocAttr, -Nat.reduceSubDiff]) <;> (repeat (refine (aw_draw (by kernel_rfl)).2 ?_; simp -dsimp (disch := first | omega | (simp only [c1, hv, List.length_cons, List.length_nil, List.length_map, List.length_append, List.length_take, List.length_drop, List.length_replicate, List.length_set, mkG_len] <;> omega) | fail) only [push_cast, if_pos, decide_eq_true, decide_eq_false, c1, hv, simprocAttr, -Nat.reduceSubDiff]))
  (simp -dsimp (disch := first | omega | (simp only [c1, List.length_cons, List.length_nil, List.length_map, List.length_append, List.length_take, List.length_drop, List.length_replicate, List.length_set, mkG_len] <;> omega) | fail) only [push_cast, if_pos, decide_eq_true, decide_eq_false, c1, simprocAttr, -Nat.reduceSubDiff]) <;> (repeat (refine (aw_draw (by kernel_rfl)).2 ?_; simp -dsimp (disch := first | omega | (simp only [c1, List.length_cons, List.length_nil, List.length_map, List.length_append, List.length_take, List.length_drop, List.length_replicate, List.length_set, mkG_len] <;> omega) | fail) only [push_cast, if_pos, decide_eq_true, decide_eq_false, c1, simprocAttr, -Nat.reduceSubDiff]))
  refine callC (ascending _ _ hp) ?_
  cases c5 : ascF s.w none s.P with
  | false =>
    have hv : validSt s = false := by simp [validSt, c5]
    (simp -dsimp (disch := first | omega | (simp only [hv, List.length_cons, List.length_nil, List.length_map, List.length_append, List.length_take, List.length_drop, List.length_replicate, List.length_set, mkG_len] <;> omega) | fail) only [push_cast, if_pos, decide_eq_true, decide_eq_false, hv, simprocAttr, -Nat.reduceSubDiff]) <;> (repeat (refine (aw_draw (by kernel_rfl)).2 ?_; simp -dsimp (disch := first | omega | (simp only [hv, List.length_cons, List.length_nil, List.length_map, List.length_append, List.length_take, List.length_drop, List.length_replicate, List.length_set, mkG_len] <;> omega) | fail) only [push_cast, if_pos, decide_eq_true, decide_eq_false, hv, simprocAttr, -Nat.reduceSubDiff]))
  | true =>
  obtain ⟨R, hR⟩ : ∃ R, R = decide (bytes s.I ≤ s.r) := ⟨_, rfl⟩
  obtain ⟨M, hM⟩ : ∃ M, M = validSt s := ⟨_, rfl⟩
  rw [← hM]
  have hv : (itF s.w none s.I && R) = M := by
    simp only [hM, validSt, inB_def s.r, c1, c2, c2b, c3, c4, c5, hR, decide_true, Bool.true_and]
  clear hM
  (simp -dsimp (disch := first | omega | (simp only [List.length_cons, List.length_nil, List.length_map, List.length_append, List.length_take, List.length_drop, List.length_replicate, List.length_set, mkG_len] <;> omega) | fail) only [push_cast, if_pos, decide_eq_true, decide_eq_false, simprocAttr, -Nat.reduceSubDiff]) <;> (repeat (refine (aw_draw (by kernel_rfl)).2 ?_; simp -dsimp (disch := first | omega | (simp only [List.length_cons, List.length_nil, List.length_map, List.length_append, List.length_take, List.length_drop, List.length_replicate, List.length_set, mkG_len] <;> omega) | fail) only [push_cast, if_pos, decide_eq_true, decide_eq_false, simprocAttr, -Nat.reduceSubDiff]))
  refine loop_ind (α := Nat × Option Str) (fun p => p.1 ≤ s.I.length ∧ (p.2 = none ↔ p.1 = 0) ∧ (itF s.w p.2 (s.I.drop p.1) && R) = M) (fun p => ⟨[(1, .pt 1 0 0), (3, .sc (.int .i64 (bytes (s.I.take p.1)))), (4, .sc (.string (p.2.getD em))), (43, .sl false 2 (s.I.map (itemC false))), (44, .sc (.int .i64 s.I.length)), (45, .sc (.int .i64 p.1))], [(1, .bx (storeC false s))], 2⟩) (fun p => s.I.length - p.1) (0, none) ⟨Nat.zero_le _, by simp, hv⟩ ?_ ?_
  · simp -dsimp (disch := first | omega | (simp only [em, List.take_zero, bytes, List.length_cons, List.length_nil, List.length_map, List.length_append, List.length_take, List.length_drop, List.length_replicate, List.length_set, mkG_len] <;> omega) | fail) only [push_cast, if_pos, decide_eq_true, decide_eq_false, em, List.take_zero, bytes, simprocAttr, -Nat.reduceSubDiff]
  rintro ⟨i, p⟩ ⟨hi, hp0, hy⟩ ih
  dsimp only at hi hp0 hy
  by_cases h : i < s.I.length
  · obtain ⟨x, hx⟩ := ex_get h
    have hxb : x.t.size ≤ 2097152 := hs.1.2 x (List.mem_of_getElem? hx)
    have h1 := bytes_app (s.I.take (i + 1)) (s.I.drop (i + 1))
    have h2 := bytes_app (s.I.take i) [x]
    rw [← take_step hx, bytes, bytes] at h2
    rw [List.take_append_drop] at h1
    have h3 := bytes_nn (s.I.drop (i + 1))
    have h4 := bytes_nn (s.I.take i)
    rw [Int.add_zero] at h2
    rw [drop_step hx, itF] at hy
    simp -dsimp (disch := first | omega | (simp only [hx, List.length_cons, List.length_nil, List.length_map, List.length_append, List.length_take, List.length_drop, List.length_replicate, List.length_set, mkG_len] <;> omega) | fail) only [push_cast, if_pos, decide_eq_true, decide_eq_false, hx, simprocAttr, -Nat.reduceSubDiff]
    refine callC (implSum _ _ (by omega)) ?_
    simp -dsimp (disch := first | omega | (simp only [List.length_cons, List.length_nil, List.length_map, List.length_append, List.length_take, List.length_drop, List.length_replicate, List.length_set, mkG_len] <;> omega) | fail) only [push_cast, if_pos, decide_eq_true, decide_eq_false, simprocAttr, -Nat.reduceSubDiff]
    cases d1 : inB x.t.size 1 7000 with
    | false =>
      rw [d1, Bool.false_and, Bool.false_and, Bool.false_and, Bool.false_and] at hy
      by_cases d1a : 1 ≤ (x.t.size : Int)
      · have d1b : ¬ (x.t.size : Int) ≤ 7000 := fun e => by rw [inB_def, decide_eq_true d1a, decide_eq_true e] at d1; cases d1
        (simp -dsimp (disch := first | omega | (simp only [← hy, List.length_cons, List.length_nil, List.length_map, List.length_append, List.length_take, List.length_drop, List.length_replicate, List.length_set, mkG_len] <;> omega) | fail) only [push_cast, if_pos, decide_eq_true, decide_eq_false, ← hy, simprocAttr, -Nat.reduceSubDiff]) <;> (repeat (refine (aw_draw (by kernel_rfl)).2 ?_; simp -dsimp (disch := first | omega | (simp only [← hy, List.length_cons, List.length_nil, List.length_map, List.length_append, List.length_take, List.length_drop, List.length_replicate, List.length_set, mkG_len] <;> omega) | fail) only [push_cast, if_pos, decide_eq_true, decide_eq_false, ← hy, simprocAttr, -Nat.reduceSubDiff]))
      · (simp -dsimp (disch := first | omega | (simp only [← hy, List.length_cons, List.length_nil, List.length_map, List.length_append, List.length_take, List.length_drop, List.length_replicate, List.length_set, mkG_len] <;> omega) | fail) only [push_cast, if_pos, decide_eq_true, decide_eq_false, ← hy, simprocAttr, -Nat.reduceSubDiff]) <;> (repeat (refine (aw_draw (by kernel_rfl)).2 ?_; simp -dsimp (disch := first | omega | (simp only [← hy, List.length_cons, List.length_nil, List.length_map, List.length_append, List.length_take, List.length_drop, List.length_replicate, List.length_set, mkG_len] <;> omega) | fail) only [push_cast, if_pos, decide_eq_true, decide_eq_false, ← hy, simprocAttr, -Nat.reduceSubDiff]))
    | true =>
    have d1a : 1 ≤ (x.t.size : Int) ∧ (x.t.size : Int) ≤ 7000 := by unfold inB at d1; exact of_decide_eq_true d1
    rw [d1, Bool.true_and] at hy
    cases d2 : inB x.u 0 1000000 with
    | false =>
      rw [d2, Bool.false_and, Bool.false_and, Bool.false_and] at hy
      by_cases d1a : 0 ≤ x.u
      · have d1b : ¬ x.u ≤ 1000000 := fun e => by rw [inB_def, decide_eq_true d1a, decide_eq_true e] at d2; cases d2
        (simp -dsimp (disch := first | omega | (simp only [← hy, List.length_cons, List.length_nil, List.length_map, List.length_append, List.length_take, List.length_drop, List.length_replicate, List.length_set, mkG_len] <;> omega) | fail) only [push_cast, if_pos, decide_eq_true, decide_eq_false, ← hy, simprocAttr, -Nat.reduceSubDiff]) <;> (repeat (refine (aw_draw (by kernel_rfl)).2 ?_; simp -dsimp (disch := first | omega | (simp only [← hy, List.length_cons, List.length_nil, List.length_map, List.length_append, List.length_take, List.length_drop, List.length_replicate, List.length_set, mkG_len] <;> omega) | fail) only [push_cast, if_pos, decide_eq_true, decide_eq_false, ← hy, simprocAttr, -Nat.reduceSubDiff]))
      · (simp -dsimp (disch := first | omega | (simp only [← hy, List.length_cons, List.length_nil, List.length_map, List.length_append, List.length_take, List.length_drop, List.length_replicate, List.length_set, mkG_len] <;> omega) | fail) only [push_cast, if_pos, decide_eq_true, decide_eq_false, ← hy, simprocAttr, -Nat.reduceSubDiff]) <;> (repeat (refine (aw_draw (by kernel_rfl)).2 ?_; simp -dsimp (disch := first | omega | (simp only [← hy, List.length_cons, List.length_nil, List.length_map, List.length_append, List.length_take, List.length_drop, List.length_replicate, List.length_set, mkG_len] <;> omega) | fail) only [push_cast, if_pos, decide_eq_true, decide_eq_false, ← hy, simprocAttr, -Nat.reduceSubDiff]))
    | true =>
    have d2a : 0 ≤ x.u ∧ x.u ≤ 1000000 := by unfold inB at d2; exact of_decide_eq_true d2
    rw [d2, Bool.true_and] at hy
    cases p with
    | none =>
      obtain rfl := hp0.1 rfl
      rw [show aft none (sumS x.t s.w) = true from rfl, Bool.true_and] at hy
      simp -dsimp (disch := first | omega | (simp only [List.length_cons, List.length_nil, List.length_map, List.length_append, List.length_take, List.length_drop, List.length_replicate, List.length_set, mkG_len] <;> omega) | fail) only [push_cast, if_pos, decide_eq_true, decide_eq_false, simprocAttr, -Nat.reduceSubDiff]
      refine ih (1, some (sumS x.t s.w)) _ (by simp; omega) ⟨h, by simp, hy⟩ ?_
      simp only [] at h2 ⊢
      rw [h2]
      simp -dsimp (disch := first | omega | (simp only [wr_id, List.take_zero, bytes, List.length_cons, List.length_nil, List.length_map, List.length_append, List.length_take, List.length_drop, List.length_replicate, List.length_set, mkG_len] <;> omega) | fail) only [push_cast, if_pos, decide_eq_true, decide_eq_false, wr_id, List.take_zero, bytes, simprocAttr, -Nat.reduceSubDiff]
    | some q =>
      have hi0 : i ≠ 0 := fun e => by have := hp0.2 e; cases this
      cases d3 : lts q (sumS x.t s.w) with
      | false =>
        rw [show aft (some q) (sumS x.t s.w) = lts q (sumS x.t s.w) from rfl, d3, Bool.false_and, Bool.false_and] at hy
        (simp -dsimp (disch := first | omega | (simp only [d3, ← hy, List.length_cons, List.length_nil, List.length_map, List.length_append, List.length_take, List.length_drop, List.length_replicate, List.length_set, mkG_len] <;> omega) | fail) only [push_cast, if_pos, decide_eq_true, decide_eq_false, d3, ← hy, simprocAttr, -Nat.reduceSubDiff]) <;> (repeat (refine (aw_draw (by kernel_rfl)).2 ?_; simp -dsimp (disch := first | omega | (simp only [d3, ← hy, List.length_cons, List.length_nil, List.length_map, List.length_append, List.length_take, List.length_drop, List.length_replicate, List.length_set, mkG_len] <;> omega) | fail) only [push_cast, if_pos, decide_eq_true, decide_eq_false, d3, ← hy, simprocAttr, -Nat.reduceSubDiff]))
      | true =>
        rw [show aft (some q) (sumS x.t s.w) = lts q (sumS x.t s.w) from rfl, d3, Bool.true_and] at hy
        simp -dsimp (disch := first | omega | (simp only [d3, List.length_cons, List.length_nil, List.length_map, List.length_append, List.length_take, List.length_drop, List.length_replicate, List.length_set, mkG_len] <;> omega) | fail) only [push_cast, if_pos, decide_eq_true, decide_eq_false, d3, simprocAttr, -Nat.reduceSubDiff]
        refine ih (i + 1, some (sumS x.t s.w)) _ (by simp; omega) ⟨h, by simp, hy⟩ ?_
        simp only []
        rw [h2]
        simp -dsimp (disch := first | omega | (simp only [wr_id, List.length_cons, List.length_nil, List.length_map, List.length_append, List.length_take, List.length_drop, List.length_replicate, List.length_set, mkG_len] <;> omega) | fail) only [push_cast, if_pos, decide_eq_true, decide_eq_false, wr_id, simprocAttr, -Nat.reduceSubDiff]
  rw [List.drop_eq_nil_of_le (by omega), itF, Bool.true_and] at hy
  (simp -dsimp (disch := first | omega | (simp only [← hy, hR, List.take_of_length_le, List.length_cons, List.length_nil, List.length_map, List.length_append, List.length_take, List.length_drop, List.length_replicate, List.length_set, mkG_len] <;> omega) | fail) only [push_cast, if_pos, decide_eq_true, decide_eq_false, ← hy, hR, List.take_of_length_le, simprocAttr, -Nat.reduceSubDiff]) <;> (repeat (refine (aw_draw (by kernel_rfl)).2 ?_; simp -dsimp (disch := first | omega | (simp only [← hy, hR, List.take_of_length_le, List.length_cons, List.length_nil, List.length_map, List.length_append, List.length_take, List.length_drop, List.length_replicate, List.length_set, mkG_len] <;> omega) | fail) only [push_cast, if_pos, decide_eq_true, decide_eq_false, ← hy, hR, List.take_of_length_le, simprocAttr, -Nat.reduceSubDiff]))
end Go.Proofs.YtgkncgiglmdnaaaGreatDoor.Mx

/- A sum is added «to» an ascending list. -/
namespace Go.Proofs.YtgkncgiglmdnaaaGreatDoor.Mx
set_option linter.all false
open Go Go.RowKit Go.Proofs
set_option linter.unusedSimpArgs false
def E137 : Env := { T := T0, kp := look [(0, [0, 1]), (1, [0, 1]), (2, [0, 1, 5]), (3, [0, 1, 5]), (4, [0, 1, 5]), (5, [0]), (6, [0, 1, 5])], dp := look2 [(6, [[], [], [], [1, 2], [0, 1, 2, 3], [], [5], [0, 1, 2, 3, 4, 5, 6], [], [], [8, 9], [0, 1, 2, 3, 4, 5, 6, 7, 8, 9, 10], [0, 1, 2, 3, 4, 5, 6, 7, 8, 9, 10, 11]])] }
attribute [local push_cast] E137
theorem l4Add (l : List Str) (s : Str) (hl : l.length ≤ 2097152) : Does Tryz.prog 137 [.sl true 1 (l.map strR), .sc (.string s)] (.sl true 1 ((addS l s).map strR), []) := by
  refine does_of (E := E137) (rs := [.tmp 4]) (lent := []) tOk rfl Tryz.func137 rfl (by decide) rfl rfl (Nat.le_of_ble_eq_true rfl) (Nat.le_of_ble_eq_true rfl) ?_
  have hr := rk_le l s
  obtain ⟨M, hM⟩ : ∃ M, M = addS l s := ⟨_, rfl⟩
  rw [← hM]
  simp -dsimp (disch := first | omega | (simp only [List.length_cons, List.length_nil, List.length_map, List.length_append, List.length_take, List.length_drop, List.length_replicate, List.length_set, mkG_len] <;> omega) | fail) only [push_cast, if_pos, decide_eq_true, decide_eq_false, simprocAttr, -Nat.reduceSubDiff]
  refine loop_ind (α := Nat) (fun i => i ≤ rk l s) (fun i => ⟨[(0, .ow 1 0 l.length), (1, .sc (.string s)), (5, .sc (.int .i64 i))], [(1, .ar 1 0 (l.map strR))], 2⟩) (fun i => rk l s - i) 0 (Nat.zero_le _) ?_ ?_
  · simp -dsimp (disch := first | omega | (simp only [List.length_cons, List.length_nil, List.length_map, List.length_append, List.length_take, List.length_drop, List.length_replicate, List.length_set, mkG_len] <;> omega) | fail) only [push_cast, if_pos, decide_eq_true, decide_eq_false, simprocAttr, -Nat.reduceSubDiff]
  intro i hi ih
  by_cases h : i < l.length
  · obtain ⟨x, hx⟩ := ex_get h
    cases e : lts x s with
    | true =>
      have := rk_step hi hx e
      simp -dsimp (disch := first | omega | (simp only [hx, e, List.length_cons, List.length_nil, List.length_map, List.length_append, List.length_take, List.length_drop, List.length_replicate, List.length_set, mkG_len] <;> omega) | fail) only [push_cast, if_pos, decide_eq_true, decide_eq_false, hx, e, simprocAttr, -Nat.reduceSubDiff]
      refine ih (i + 1) _ (by omega) this ?_
      simp -dsimp (disch := first | omega | (simp only [wr_id, List.length_cons, List.length_nil, List.length_map, List.length_append, List.length_take, List.length_drop, List.length_replicate, List.length_set, mkG_len] <;> omega) | fail) only [push_cast, if_pos, decide_eq_true, decide_eq_false, wr_id, simprocAttr, -Nat.reduceSubDiff]
    | false =>
      have hk : i = rk l s := by
        rcases Nat.lt_or_eq_of_le hi with h | h
        · obtain ⟨y, hy, hy2⟩ := rk_all h
          rw [hx] at hy; cases hy; rw [e] at hy2; cases hy2
        · exact h
      by_cases e2 : x = s
      · have hM2 : M = l := by rw [hM]; unfold addS hasS; rw [← hk, hx, e2]; simp
        subst e2
        simp -dsimp (disch := first | omega | (simp only [hx, e, hM2, List.length_cons, List.length_nil, List.length_map, List.length_append, List.length_take, List.length_drop, List.length_replicate, List.length_set, mkG_len] <;> omega) | fail) only [push_cast, if_pos, decide_eq_true, decide_eq_false, hx, e, hM2, simprocAttr, -Nat.reduceSubDiff]
      · have hM2 : M = l.take i ++ s :: l.drop i := by rw [hM]; unfold addS hasS; rw [← hk, hx]; simp [e2]
        have hs : ∀ n, seg (l.map strR) 0 n = (l.take n).map strR := fun n => by simp [seg, List.map_take]
        have hs2 : ∀ a n, l.length ≤ a + n → seg (l.map strR) a n = (l.drop a).map strR := fun a n h => by unfold seg; rw [List.take_of_length_le (by simp; omega), List.map_drop]
        (simp -dsimp (disch := first | omega | (simp only [hx, e, e2, hs, hs2, List.length_cons, List.length_nil, List.length_map, List.length_append, List.length_take, List.length_drop, List.length_replicate, List.length_set, mkG_len] <;> omega) | fail) only [push_cast, if_pos, decide_eq_true, decide_eq_false, hx, e, e2, hs, hs2, simprocAttr, -Nat.reduceSubDiff]) <;> (repeat (refine (aw_draw (by kernel_rfl)).2 ?_; simp -dsimp (disch := first | omega | (simp only [hx, e, e2, hs, hs2, List.length_cons, List.length_nil, List.length_map, List.length_append, List.length_take, List.length_drop, List.length_replicate, List.length_set, mkG_len] <;> omega) | fail) only [push_cast, if_pos, decide_eq_true, decide_eq_false, hx, e, e2, hs, hs2, simprocAttr, -Nat.reduceSubDiff]))
        simp [hM2, strR]
  · have hk : i = l.length := by omega
    have hM2 : M = l ++ [s] := by
      rw [hM]; unfold addS hasS
      have : rk l s = l.length := by omega
      rw [this]; simp
    subst hk
    have hs : ∀ n, seg (l.map strR) 0 n = (l.take n).map strR := fun n => by simp [seg, List.map_take]
    have hs2 : ∀ a n, l.length ≤ a + n → seg (l.map strR) a n = (l.drop a).map strR := fun a n h => by unfold seg; rw [List.take_of_length_le (by simp; omega), List.map_drop]
    (simp -dsimp (disch := first | omega | (simp only [hs, hs2, List.length_cons, List.length_nil, List.length_map, List.length_append, List.length_take, List.length_drop, List.length_replicate, List.length_set, mkG_len] <;> omega) | fail) only [push_cast, if_pos, decide_eq_true, decide_eq_false, hs, hs2, simprocAttr, -Nat.reduceSubDiff]) <;> (repeat (refine (aw_draw (by kernel_rfl)).2 ?_; simp -dsimp (disch := first | omega | (simp only [hs, hs2, List.length_cons, List.length_nil, List.length_map, List.length_append, List.length_take, List.length_drop, List.length_replicate, List.length_set, mkG_len] <;> omega) | fail) only [push_cast, if_pos, decide_eq_true, decide_eq_false, hs, hs2, simprocAttr, -Nat.reduceSubDiff]))
    simp [hM2, strR]
end Go.Proofs.YtgkncgiglmdnaaaGreatDoor.Mx

/- sort.SearchStrings. -/
namespace Go.Proofs.YtgkncgiglmdnaaaGreatDoor.Mx
set_option linter.all false
open Go Go.RowKit Go.Proofs
theorem lts_def (a b : Str) : lts a b = decide (a.data.toList < b.data.toList) := bytesLess_eq _ _
/-- what is less stands first -/
def parts (l : List Str) (s : Str) : Prop := ∀ a b : Nat, a ≤ b → ∀ x y, l[a]? = some x → l[b]? = some y → lts y s = true → lts x s = true
theorem countP_rk {s : Str} : ∀ {l : List Str}, parts l s → l.countP (fun y => lts y s) = rk l s
  | [], _ => rfl
  | a :: r, h => by
    rw [List.countP_cons, rk]
    have ht : parts r s := fun i j hij x y hx hy => h (i + 1) (j + 1) (by omega) x y hx hy
    cases ha : lts a s with
    | true => rw [countP_rk ht]; simp
    | false =>
      have : r.countP (fun y => lts y s) = 0 := by
        rw [List.countP_eq_zero]
        intro y hy
        obtain ⟨j, hj⟩ := List.mem_iff_getElem?.1 hy
        intro hc
        have := h 0 (j + 1) (by omega) a y rfl hj hc
        rw [ha] at this; cases this
      rw [this]; simp
theorem searchStrings (l : List Str) (s : Str) (hl : l.length ≤ 2097152) (hp : parts l s) : Does Tryz.prog 172 [.sl false 1 (l.map strR), .sc (.string s)] (.sc (.int .i64 (rk l s)), []) := by
  refine does_pure Tryz.func172 rfl rfl rfl fun w ok G args hA => ?_
  obtain ⟨u, v, rfl, h0, h1⟩ := args2 hA
  obtain rfl := rep_str (own_rep h1 (by intro z r h; cases h) (by intro cs h; cases h))
  rcases rep_strs (own_rep h0 (by intro z r h; cases h) (by intro cs h; cases h)) with ⟨rfl, A, c, rfl⟩ | ⟨b, off, cap, rfl, hc, hb, hcell⟩
  · exact Any.sort_SearchStrings_none Tryz.searchStrings A c s w
  · have e2 : ∀ i x, l[i]? = some x → (l.toArray)[i]! = x := fun i x hx => by
      have hi := idx_lt hx
      rw [getElem!_pos l.toArray i (by simpa using hi)]
      rw [List.getElem?_eq_getElem hi] at hx
      simpa using hx
    have z := Any.sort_SearchStrings Tryz.searchStrings b off cap l.toArray s w (fun i hi => by
        obtain ⟨x, hx⟩ := ex_get (by simpa using hi : i < l.length)
        rw [e2 i x hx]; exact hcell i x hx) (hA.inn b hb) (by simp; omega) (fun i j hij hj => by
        obtain ⟨y, hy⟩ := ex_get (by simpa using hj : j < l.length)
        obtain ⟨x, hx⟩ := ex_get (show i < l.length by have := idx_lt hy; omega)
        rw [e2 i x hx, e2 j y hy, ← lts_def, ← lts_def]
        intro q
        cases z : lts y s with
        | false => rfl
        | true => rw [hp i j hij x y hx hy z] at q; exact q)
    simp only [List.size_toArray] at z
    refine z.mono fun e w' hh => ⟨?_, hh.2⟩
    rw [hh.1, ← countP_rk hp]
    congr 4
    funext y
    rw [lts_def]; simp
end Go.Proofs.YtgkncgiglmdnaaaGreatDoor.Mx

/- Pins. -/
namespace Go.Proofs.YtgkncgiglmdnaaaGreatDoor.Mx
set_option linter.all false
open Go Go.RowKit Go.Proofs
set_option linter.unusedSimpArgs false
theorem lts_trans {a b c : Str} (h1 : lts a b = true) (h2 : lts b c = true) : lts a c = true := by
  rw [lts_def] at *
  exact decide_eq_true (List.lt_trans (of_decide_eq_true h1) (of_decide_eq_true h2))
theorem asc_get {w : Int} : ∀ {p : Option Str} {l : List Str} {i : Nat} {x : Str}, ascF w p l = true → l[i]? = some x → (x.size : Int) = w ∧ ∀ q, p = some q → lts q x = true
  | _, [], i, x, _, h => by simp at h
  | p, a :: r, 0, x, h, hx => by
    rw [ascF, Bool.and_eq_true, Bool.and_eq_true, decide_eq_true_eq] at h
    simp only [List.getElem?_cons_zero, Option.some.injEq] at hx
    subst hx
    exact ⟨h.1.1, fun q hq => by rw [hq] at h; exact h.1.2⟩
  | p, a :: r, i + 1, x, h, hx => by
    rw [ascF, Bool.and_eq_true, Bool.and_eq_true, decide_eq_true_eq] at h
    have := asc_get h.2 (by simpa using hx)
    exact ⟨this.1, fun q hq => by rw [hq] at h; exact lts_trans h.1.2 (this.2 a rfl)⟩
theorem asc_lt {w : Int} : ∀ {p : Option Str} {l : List Str} {i j : Nat} {x y : Str}, ascF w p l = true → i < j → l[i]? = some x → l[j]? = some y → lts x y = true
  | _, [], i, j, x, y, _, _, h, _ => by simp at h
  | p, a :: r, 0, j + 1, x, y, h, _, hx, hy => by
    rw [ascF, Bool.and_eq_true, Bool.and_eq_true, decide_eq_true_eq] at h
    simp only [List.getElem?_cons_zero, Option.some.injEq] at hx
    subst hx
    exact (asc_get h.2 (by simpa using hy)).2 a rfl
  | p, a :: r, i + 1, j + 1, x, y, h, hij, hx, hy => by
    rw [ascF, Bool.and_eq_true, Bool.and_eq_true, decide_eq_true_eq] at h
    exact asc_lt h.2 (by omega : i < j) (by simpa using hx) (by simpa using hy)
theorem asc_parts {w : Int} {p : Option Str} {l : List Str} (h : ascF w p l = true) (s : Str) : parts l s := fun a b hab x y hx hy hl => by
  rcases Nat.lt_or_eq_of_le hab with hlt | rfl
  · exact lts_trans (asc_lt h hlt hx hy) hl
  · rw [hx] at hy; cases hy; exact hl
theorem validSt_asc {s : Store} (h : validSt s = true) : ascF s.w none s.P = true ∧ s.P.length ≤ 10 := by
  unfold validSt at h
  simp only [Bool.and_eq_true, decide_eq_true_eq] at h
  exact ⟨h.1.1.2, h.1.1.1.2⟩
def E143 : Env := { T := T0, kp := look [(0, [0, 1]), (1, [1, 2]), (2, [1, 2, 6])], dp := look2 [(2, [[], [], [], [2], [2, 3], [1, 2, 3, 4], [1, 2, 3, 4, 5], [1, 2, 3, 4, 5, 6], [1, 2, 3, 4, 5, 6, 7], [1, 2, 3, 4, 5, 6], [1, 2, 3, 4, 5, 6, 7, 8, 9], [1, 2, 3, 4, 5, 6, 7, 8, 9, 10], [1, 2, 3, 4, 5, 6], [1, 2, 3, 4, 5, 6, 7, 8, 9, 10, 11, 12], [1, 2, 3, 4, 5, 6, 7, 8, 9, 10, 11, 12, 13], [0, 1, 2, 3, 4, 5, 6], [0, 1, 2, 3, 4, 5, 6, 7, 8, 9, 10, 11, 12, 13, 14, 15]])] }
attribute [local push_cast] E143
theorem pinned (s : Store) (n : Str) (hs : okStore s) (hp : parts s.P n) : Does Tryz.prog 143 [.ag (storeC false s), .sc (.string n)] (.tu [.sc (.int .i64 (rk s.P n)), .sc (.bool (hasS s.P n))], []) := by
  refine does_of (E := E143) (rs := [.tmp 4, .tmp 5]) (lent := []) tOk rfl Tryz.func143 rfl (by decide) rfl rfl (Nat.le_of_ble_eq_true rfl) (Nat.le_of_ble_eq_true rfl) ?_
  have hr := rk_le s.P n
  have hl := hs.2.1
  (simp -dsimp (disch := first | omega | (simp only [List.length_cons, List.length_nil, List.length_map, List.length_append, List.length_take, List.length_drop, List.length_replicate, List.length_set, mkG_len] <;> omega) | fail) only [push_cast, if_pos, decide_eq_true, decide_eq_false, simprocAttr, -Nat.reduceSubDiff]) <;> (repeat (refine (aw_draw (by kernel_rfl)).2 ?_; simp -dsimp (disch := first | omega | (simp only [List.length_cons, List.length_nil, List.length_map, List.length_append, List.length_take, List.length_drop, List.length_replicate, List.length_set, mkG_len] <;> omega) | fail) only [push_cast, if_pos, decide_eq_true, decide_eq_false, simprocAttr, -Nat.reduceSubDiff]))
  refine callC (searchStrings s.P n hl hp) ?_
  by_cases h : rk s.P n < s.P.length
  · obtain ⟨x, hx⟩ := ex_get h
    by_cases e : x = n
    · have hh : hasS s.P n = true := by unfold hasS; rw [hx, e]; simp
      (simp -dsimp (disch := first | omega | (simp only [hx, e, hh, List.length_cons, List.length_nil, List.length_map, List.length_append, List.length_take, List.length_drop, List.length_replicate, List.length_set, mkG_len] <;> omega) | fail) only [push_cast, if_pos, decide_eq_true, decide_eq_false, hx, e, hh, simprocAttr, -Nat.reduceSubDiff]) <;> (repeat (refine (aw_draw (by kernel_rfl)).2 ?_; simp -dsimp (disch := first | omega | (simp only [hx, e, hh, List.length_cons, List.length_nil, List.length_map, List.length_append, List.length_take, List.length_drop, List.length_replicate, List.length_set, mkG_len] <;> omega) | fail) only [push_cast, if_pos, decide_eq_true, decide_eq_false, hx, e, hh, simprocAttr, -Nat.reduceSubDiff]))
    · have hh : hasS s.P n = false := by unfold hasS; rw [hx]; simp [e]
      (simp -dsimp (disch := first | omega | (simp only [hx, e, hh, List.length_cons, List.length_nil, List.length_map, List.length_append, List.length_take, List.length_drop, List.length_replicate, List.length_set, mkG_len] <;> omega) | fail) only [push_cast, if_pos, decide_eq_true, decide_eq_false, hx, e, hh, simprocAttr, -Nat.reduceSubDiff]) <;> (repeat (refine (aw_draw (by kernel_rfl)).2 ?_; simp -dsimp (disch := first | omega | (simp only [hx, e, hh, List.length_cons, List.length_nil, List.length_map, List.length_append, List.length_take, List.length_drop, List.length_replicate, List.length_set, mkG_len] <;> omega) | fail) only [push_cast, if_pos, decide_eq_true, decide_eq_false, hx, e, hh, simprocAttr, -Nat.reduceSubDiff]))
  · have hh : hasS s.P n = false := by unfold hasS; rw [List.getElem?_eq_none (by omega)]; simp
    (simp -dsimp (disch := first | omega | (simp only [hh, List.length_cons, List.length_nil, List.length_map, List.length_append, List.length_take, List.length_drop, List.length_replicate, List.length_set, mkG_len] <;> omega) | fail) only [push_cast, if_pos, decide_eq_true, decide_eq_false, hh, simprocAttr, -Nat.reduceSubDiff]) <;> (repeat (refine (aw_draw (by kernel_rfl)).2 ?_; simp -dsimp (disch := first | omega | (simp only [hh, List.length_cons, List.length_nil, List.length_map, List.length_append, List.length_take, List.length_drop, List.length_replicate, List.length_set, mkG_len] <;> omega) | fail) only [push_cast, if_pos, decide_eq_true, decide_eq_false, hh, simprocAttr, -Nat.reduceSubDiff]))
end Go.Proofs.YtgkncgiglmdnaaaGreatDoor.Mx

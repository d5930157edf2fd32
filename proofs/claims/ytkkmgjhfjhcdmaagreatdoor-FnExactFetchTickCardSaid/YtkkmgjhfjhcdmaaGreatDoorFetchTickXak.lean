/- A machine over values for Go functions, proved sound, and functions run on it: texts G6, F3, F4, F21, S2, V5, V6, VU, VX, B2, F6, F7, F8, V7, F13, VW. -/
import Derived.Test.YtkkmgjhfjhcdmaaGreatDoorShA
import Derived.Shelf.SlSorted.Search
import Derived.Test.YtkkmgjhfjhcdmaaGreatDoorShC
import Derived.Test.YtkkmgjhfjhcdmaaGreatDoorFetchTickXah
import Derived.Test.YtkkmgjhfjhcdmaaGreatDoorFetchTickXai
import Derived.Test.YtkkmgjhfjhcdmaaGreatDoorFetchTickXaj
/- The laws' helpers run (By fam.py of this session.) -/
namespace Go.Proofs.YtkkmgjhfjhcdmaaGreatDoor.Mx
set_option linter.all false
open Go Go.RowKit Go.Proofs
set_option linter.unusedSimpArgs false
set_option linter.unusedVariables false
def E37 : Env := { T := T0, kp := look [(0, [0, 1]), (1, [0, 1]), (2, [0, 1, 5]), (3, [0, 1, 5]), (4, [0, 1, 5]), (5, [0, 1, 5]), (6, [0, 1, 5]), (7, [0, 1, 5]), (8, [0, 1, 5]), (9, [0, 1, 5]), (10, [0, 1, 5]), (11, [0, 1, 5]), (12, [0, 1, 5]), (13, [0, 1, 5]), (14, [0, 1])] }
attribute [local push_cast] E37
theorem markMessageS (l : List Message) (k : Int) (k0 : 0 ≤ k) (k1 : k + cnG cnMessage l < 2305843009213693952) : Does Tryz.prog 37 [.sl true 5 (l.map (messageC true)), .sc (.int .i64 k)] (.sc (.int .i64 (k + cnG cnMessage l)), [some (.sl true 5 ((mkG mkMessage cnMessage l k).map (messageC true)))]) := by
  refine does_of (E := E37) (rs := [.tmp 4]) (lent := [true]) tOk rfl Tryz.func37 rfl (by decide) rfl rfl (Nat.le_of_ble_eq_true rfl) (Nat.le_of_ble_eq_true rfl) ?_
  have hM := mkG_len mkMessage cnMessage l k
  generalize hm : mkG mkMessage cnMessage l k = M at hM ⊢
  have hlen : (l.length : Int) ≤ cnG cnMessage l := cnG_len (fun a => by have := cnMessage_nn a; have := cnMessage_1 a; omega) l
  simp -dsimp (disch := first | omega | (simp only [LR] <;> omega) | fail) only [push_cast, simprocAttr, -Nat.reduceSubDiff]
  refine loop_ind (α := Nat) (fun i => i ≤ l.length) (fun i => ⟨[(0, .ow 1 0 l.length), (1, .sc (.int .i64 (k + cnG cnMessage (l.take i)))), (5, .sc (.int .i64 i))], [(1, .ar 5 0 ((M.take i ++ l.drop i).map (messageC true)))], 2⟩) (fun i => l.length - i) 0 (Nat.zero_le _) ?_ ?_
  · simp -dsimp (disch := first | omega | (simp only [Int.add_zero, List.take_zero, List.drop_zero, cnG, LR] <;> omega) | fail) only [push_cast, Int.add_zero, List.take_zero, List.drop_zero, cnG, simprocAttr, -Nat.reduceSubDiff]
  intro i hi ih
  by_cases h : i < l.length
  · obtain ⟨s, hx⟩ := ex_get h
    have hw := (get_over (a := M) (b := l) hM (by omega)).trans hx
    have hcs : cnMessage s = 1 + 1 + 1 + 1 + 1 := rfl
    have hc : cnG cnMessage (l.take (i + 1)) = cnG cnMessage (l.take i) + cnMessage s := by rw [take_step hx, cnG_app]; simp [cnG]
    have hle := cnG_app cnMessage (l.take (i + 1)) (l.drop (i + 1))
    rw [List.take_append_drop] at hle
    have hnn := cnG_nn cnMessage_nn (l.drop (i + 1))
    have hn0 := cnG_nn cnMessage_nn (l.take i)
    have hy : M[i]? = some (mkMessage s (k + cnG cnMessage (l.take i))) := by rw [← hm, mkG_step hx]
    obtain ⟨K, hK⟩ : ∃ K, K = k + cnG cnMessage (l.take i) := ⟨_, rfl⟩
    have hN : k + cnG cnMessage (l.take (i + 1)) = K + 1 + 1 + 1 + 1 + 1 := by rw [hc, hcs]; omega
    rw [← hK] at hy
    have ee := congrArg (List.map (messageC true)) (set_over hM hy)
    rw [List.map_set] at ee
    simp -dsimp (disch := first | omega | (simp only [wr_id, hw, List.getElem?_set_self, List.set_set, List.getD_eq_getElem?_getD, ← hK, LR] <;> omega) | fail) only [push_cast, wr_id, hw, List.getElem?_set_self, List.set_set, List.getD_eq_getElem?_getD, ← hK, simprocAttr, -Nat.reduceSubDiff]
    refine callC (markText _ (by omega)) ?_
    have ht : (K + 1 + 1 + 1).tmod 3 = (K + 1 + 1 + 1) % 3 := Int.tmod_eq_emod_of_nonneg (by omega)
    simp -dsimp (disch := first | omega | (simp only [wr_id, hw, List.getElem?_set_self, List.set_set, List.getD_eq_getElem?_getD, ← hK, ht, LR] <;> omega) | fail) only [push_cast, wr_id, hw, List.getElem?_set_self, List.set_set, List.getD_eq_getElem?_getD, ← hK, ht, simprocAttr, -Nat.reduceSubDiff]
    refine callC (markText _ (by omega)) ?_
    simp -dsimp (disch := first | omega | (simp only [wr_id, hw, List.getElem?_set_self, List.set_set, List.getD_eq_getElem?_getD, ← hK, ht, LR] <;> omega) | fail) only [push_cast, wr_id, hw, List.getElem?_set_self, List.set_set, List.getD_eq_getElem?_getD, ← hK, ht, simprocAttr, -Nat.reduceSubDiff]
    refine ih (i + 1) _ (by omega) h ?_
    rw [show messageC true (mkMessage s K) = [.sc (.int .i64 (K)), .sc (.int .i64 (K + 1)), .sc (.string (mtx (K + 1 + 1))), .sc (.bool (decide ((K + 1 + 1 + 1) % 3 = 0))), .sc (.string (mtx (K + 1 + 1 + 1 + 1)))] from rfl] at ee
    simp -dsimp (disch := first | omega | (simp only [wr_id, hN, ee, LR] <;> omega) | fail) only [push_cast, wr_id, hN, ee, simprocAttr, -Nat.reduceSubDiff]
  · have hn : i = l.length := by omega
    subst hn
    simp -dsimp (disch := first | omega | (simp only [List.take_of_length_le, List.drop_eq_nil_of_le, hM, Nat.le_refl, LR] <;> omega) | fail) only [push_cast, List.take_of_length_le, List.drop_eq_nil_of_le, hM, Nat.le_refl, simprocAttr, -Nat.reduceSubDiff]
def E39 : Env := { T := T0, kp := look [(0, [0, 1]), (1, [0, 1]), (2, [0, 1, 5]), (3, [0, 1, 5]), (4, [0, 1, 5]), (5, []), (6, [0, 1, 5]), (7, [0, 1, 5]), (8, []), (9, [0, 1, 5]), (10, [0, 1, 5]), (11, []), (12, [0, 1, 5]), (13, [0, 1, 5]), (14, []), (15, [0, 1, 5]), (16, [0, 1, 5]), (17, []), (18, [0, 1, 5]), (19, [1])], dp := look2 [(10, [[], [], [0, 1], [0, 1, 2], [0, 1, 2, 3], [], [5], [0, 1, 2, 3, 4, 5, 6]]), (16, [[], [], [0, 1], [0, 1, 2], [0, 1, 2, 3], [], [5], [0, 1, 2, 3, 4, 5, 6]])] }
attribute [local push_cast] E39
theorem heldMessageS (l : List Message) (k : Int) (k0 : 0 ≤ k) (k1 : k + cnG cnMessage l < 2305843009213693952) : Does Tryz.prog 39 [.sl false 5 (l.map (messageC false)), .sc (.int .i64 k)] (.sc (.int .i64 (hdG hdMessage cnMessage l k)), []) := by
  refine does_of (E := E39) (rs := [.tmp 4]) (lent := []) tOk rfl Tryz.func39 rfl (by decide) rfl rfl (Nat.le_of_ble_eq_true rfl) (Nat.le_of_ble_eq_true rfl) ?_
  generalize hm : hdG hdMessage cnMessage l k = M
  have hlen : (l.length : Int) ≤ cnG cnMessage l := cnG_len (fun a => by have := cnMessage_nn a; have := cnMessage_1 a; omega) l
  simp -dsimp (disch := first | omega | (simp only [LR] <;> omega) | fail) only [push_cast, simprocAttr, -Nat.reduceSubDiff]
  refine loop_ind (α := Nat) (fun i => i ≤ l.length ∧ hdG hdMessage cnMessage (l.drop i) (k + cnG cnMessage (l.take i)) = M) (fun i => ⟨[(0, .sl false 5 (l.map (messageC false))), (1, .sc (.int .i64 (k + cnG cnMessage (l.take i)))), (5, .sc (.int .i64 i))], [], 1⟩) (fun i => l.length - i) 0 ⟨Nat.zero_le _, by simpa [cnG] using hm⟩ ?_ ?_
  · simp -dsimp (disch := first | omega | (simp only [Int.add_zero, List.take_zero, cnG, LR] <;> omega) | fail) only [push_cast, Int.add_zero, List.take_zero, cnG, simprocAttr, -Nat.reduceSubDiff]
  rintro i ⟨hi, hy⟩ ih
  by_cases h : i < l.length
  · obtain ⟨s, hx⟩ := ex_get h
    have hcs : cnMessage s = 1 + 1 + 1 + 1 + 1 := rfl
    have hc : cnG cnMessage (l.take (i + 1)) = cnG cnMessage (l.take i) + cnMessage s := by rw [take_step hx, cnG_app]; simp [cnG]
    have hle := cnG_app cnMessage (l.take (i + 1)) (l.drop (i + 1))
    rw [List.take_append_drop] at hle
    have hnn := cnG_nn cnMessage_nn (l.drop (i + 1))
    have hn0 := cnG_nn cnMessage_nn (l.take i)
    obtain ⟨K, hK⟩ : ∃ K, K = k + cnG cnMessage (l.take i) := ⟨_, rfl⟩
    have hN : k + cnG cnMessage (l.take (i + 1)) = K + 1 + 1 + 1 + 1 + 1 := by rw [hc, hcs]; omega
    rw [← hK, drop_step hx, hdG] at hy
    have ht3 : (K + 1 + 1 + 1).tmod 3 = (K + 1 + 1 + 1) % 3 := Int.tmod_eq_emod_of_nonneg (by omega)
    by_cases e0 : s.fr = K
    rotate_left
    · rw [if_neg (by simp [hdMessage, e0])] at hy
      (simp -dsimp (disch := first | omega | (simp only [wr_id, hx, ← hK, e0, ← hy, LR] <;> omega) | fail) only [push_cast, wr_id, hx, ← hK, e0, ← hy, simprocAttr, -Nat.reduceSubDiff]) <;> (repeat (refine (aw_draw (by kernel_rfl)).2 ?_; simp -dsimp (disch := first | omega | (simp only [wr_id, hx, ← hK, e0, ← hy, LR] <;> omega) | fail) only [push_cast, wr_id, hx, ← hK, e0, ← hy, simprocAttr, -Nat.reduceSubDiff]))
    by_cases e1 : s.to = K + 1
    rotate_left
    · rw [if_neg (by simp [hdMessage, e1])] at hy
      (simp -dsimp (disch := first | omega | (simp only [wr_id, hx, ← hK, e0, e1, ← hy, LR] <;> omega) | fail) only [push_cast, wr_id, hx, ← hK, e0, e1, ← hy, simprocAttr, -Nat.reduceSubDiff]) <;> (repeat (refine (aw_draw (by kernel_rfl)).2 ?_; simp -dsimp (disch := first | omega | (simp only [wr_id, hx, ← hK, e0, e1, ← hy, LR] <;> omega) | fail) only [push_cast, wr_id, hx, ← hK, e0, e1, ← hy, simprocAttr, -Nat.reduceSubDiff]))
    (simp -dsimp (disch := first | omega | (simp only [wr_id, hx, ← hK, e0, e1, LR] <;> omega) | fail) only [push_cast, wr_id, hx, ← hK, e0, e1, simprocAttr, -Nat.reduceSubDiff]) <;> (repeat (refine (aw_draw (by kernel_rfl)).2 ?_; simp -dsimp (disch := first | omega | (simp only [wr_id, hx, ← hK, e0, e1, LR] <;> omega) | fail) only [push_cast, wr_id, hx, ← hK, e0, e1, simprocAttr, -Nat.reduceSubDiff]))
    refine callC (markText _ (by omega)) ?_
    by_cases e2 : s.sum = mtx (K + 1 + 1)
    rotate_left
    · rw [if_neg (by simp [hdMessage, e2])] at hy
      (simp -dsimp (disch := first | omega | (simp only [wr_id, hx, ← hK, e0, e1, e2, ← hy, LR] <;> omega) | fail) only [push_cast, wr_id, hx, ← hK, e0, e1, e2, ← hy, simprocAttr, -Nat.reduceSubDiff]) <;> (repeat (refine (aw_draw (by kernel_rfl)).2 ?_; simp -dsimp (disch := first | omega | (simp only [wr_id, hx, ← hK, e0, e1, e2, ← hy, LR] <;> omega) | fail) only [push_cast, wr_id, hx, ← hK, e0, e1, e2, ← hy, simprocAttr, -Nat.reduceSubDiff]))
    by_cases e3 : (s.has == decide ((K + 1 + 1 + 1) % 3 = 0)) = true
    rotate_left
    · rw [if_neg (by simp [hdMessage, e3])] at hy
      have e3 := (Bool.not_eq_true _).mp e3
      (simp -dsimp (disch := first | omega | (simp only [wr_id, hx, ← hK, e0, e1, e2, ht3, e3, ← hy, LR] <;> omega) | fail) only [push_cast, wr_id, hx, ← hK, e0, e1, e2, ht3, e3, ← hy, simprocAttr, -Nat.reduceSubDiff]) <;> (repeat (refine (aw_draw (by kernel_rfl)).2 ?_; simp -dsimp (disch := first | omega | (simp only [wr_id, hx, ← hK, e0, e1, e2, ht3, e3, ← hy, LR] <;> omega) | fail) only [push_cast, wr_id, hx, ← hK, e0, e1, e2, ht3, e3, ← hy, simprocAttr, -Nat.reduceSubDiff]))
    (simp -dsimp (disch := first | omega | (simp only [wr_id, hx, ← hK, e0, e1, e2, ht3, e3, LR] <;> omega) | fail) only [push_cast, wr_id, hx, ← hK, e0, e1, e2, ht3, e3, simprocAttr, -Nat.reduceSubDiff]) <;> (repeat (refine (aw_draw (by kernel_rfl)).2 ?_; simp -dsimp (disch := first | omega | (simp only [wr_id, hx, ← hK, e0, e1, e2, ht3, e3, LR] <;> omega) | fail) only [push_cast, wr_id, hx, ← hK, e0, e1, e2, ht3, e3, simprocAttr, -Nat.reduceSubDiff]))
    refine callC (markText _ (by omega)) ?_
    by_cases e4 : s.tx = mtx (K + 1 + 1 + 1 + 1)
    rotate_left
    · rw [if_neg (by simp [hdMessage, e4])] at hy
      (simp -dsimp (disch := first | omega | (simp only [wr_id, hx, ← hK, e0, e1, e2, ht3, e3, e4, ← hy, LR] <;> omega) | fail) only [push_cast, wr_id, hx, ← hK, e0, e1, e2, ht3, e3, e4, ← hy, simprocAttr, -Nat.reduceSubDiff]) <;> (repeat (refine (aw_draw (by kernel_rfl)).2 ?_; simp -dsimp (disch := first | omega | (simp only [wr_id, hx, ← hK, e0, e1, e2, ht3, e3, e4, ← hy, LR] <;> omega) | fail) only [push_cast, wr_id, hx, ← hK, e0, e1, e2, ht3, e3, e4, ← hy, simprocAttr, -Nat.reduceSubDiff]))
    rw [if_pos (by simp [hdMessage, e0, e1, e2, e3, e4])] at hy
    (simp -dsimp (disch := first | omega | (simp only [wr_id, hx, ← hK, e0, e1, e2, ht3, e3, e4, LR] <;> omega) | fail) only [push_cast, wr_id, hx, ← hK, e0, e1, e2, ht3, e3, e4, simprocAttr, -Nat.reduceSubDiff]) <;> (repeat (refine (aw_draw (by kernel_rfl)).2 ?_; simp -dsimp (disch := first | omega | (simp only [wr_id, hx, ← hK, e0, e1, e2, ht3, e3, e4, LR] <;> omega) | fail) only [push_cast, wr_id, hx, ← hK, e0, e1, e2, ht3, e3, e4, simprocAttr, -Nat.reduceSubDiff]))
    refine ih (i + 1) _ (by omega) ⟨h, by rw [hN, ← hy, hcs]; congr 1; omega⟩ ?_
    simp -dsimp (disch := first | omega | (simp only [wr_id, hN, LR] <;> omega) | fail) only [push_cast, wr_id, hN, simprocAttr, -Nat.reduceSubDiff]
  · rw [List.drop_eq_nil_of_le (by omega), hdG, List.take_of_length_le (by omega)] at hy
    simp -dsimp (disch := first | omega | (simp only [← hy, List.take_of_length_le, LR] <;> omega) | fail) only [push_cast, ← hy, List.take_of_length_le, simprocAttr, -Nat.reduceSubDiff]
end Go.Proofs.YtkkmgjhfjhcdmaaGreatDoor.Mx

/- Stores: valid, copied. -/
namespace Go.Proofs.YtkkmgjhfjhcdmaaGreatDoor.Mx
set_option linter.all false
open Go Go.RowKit Go.Proofs
set_option linter.unusedSimpArgs false
def E57 : Env := { T := T0, kp := look [(0, [0, 1]), (1, [0, 1]), (2, [0, 1, 7, 8, 9]), (3, [0, 1, 7, 8, 9]), (4, [0, 1, 5, 6, 7, 8, 9]), (5, []), (6, [0, 1, 7, 8, 9]), (7, [])] }
attribute [local push_cast] E57
theorem ascending (l : List Str) (w : Int) (hl : l.length ≤ 2097152) : Does Tryz.prog 57 [.sl false 1 (l.map strR), .sc (.int .i64 w)] (.sc (.bool (ascF w none l)), []) := by
  refine does_of (E := E57) (rs := [.tmp 4]) (lent := []) tOk rfl Tryz.func57 rfl (by decide) rfl rfl (Nat.le_of_ble_eq_true rfl) (Nat.le_of_ble_eq_true rfl) ?_
  generalize hM : ascF w none l = M
  simp -dsimp (disch := first | omega | (simp only [LR] <;> omega) | fail) only [push_cast, simprocAttr, -Nat.reduceSubDiff]
  refine loop_ind (α := Nat) (fun i => i ≤ l.length ∧ ascF w (bif i == 0 then none else l[i - 1]?) (l.drop i) = M) (fun i => ⟨[(0, .sl false 1 (l.map strR)), (1, .sc (.int .i64 w)), (7, .sl false 1 (l.map strR)), (8, .sc (.int .i64 l.length)), (9, .sc (.int .i64 i))], [], 1⟩) (fun i => l.length - i) 0 ⟨Nat.zero_le _, hM⟩ ?_ ?_
  · simp -dsimp (disch := first | omega | (simp only [LR] <;> omega) | fail) only [push_cast, simprocAttr, -Nat.reduceSubDiff]
  rintro i ⟨hi, hy⟩ ih
  by_cases h : i < l.length
  · obtain ⟨s, hx⟩ := ex_get h
    rw [drop_step hx, ascF] at hy
    have hs : ∀ P, (bif i + 1 == 0 then none else l[i + 1 - 1]?) = P → P = some s := fun P e => by rw [← e, show (i + 1 == 0) = false by simp, cond_false, Nat.add_sub_cancel, hx]
    by_cases e1 : (s.size : Int) = w
    rotate_left
    · rw [show decide ((s.size : Int) = w) = false by simp [e1], Bool.false_and, Bool.false_and] at hy
      simp -dsimp (disch := first | omega | (simp only [hx, e1, ← hy, LR] <;> omega) | fail) only [push_cast, hx, e1, ← hy, simprocAttr, -Nat.reduceSubDiff]
    rw [show decide ((s.size : Int) = w) = true by simp [e1], Bool.true_and] at hy
    by_cases e2 : i = 0
    · subst e2
      rw [show aft (bif 0 == 0 then none else l[0 - 1]?) s = true from rfl, Bool.true_and] at hy
      simp -dsimp (disch := first | omega | (simp only [hx, e1, LR] <;> omega) | fail) only [push_cast, hx, e1, simprocAttr, -Nat.reduceSubDiff]
      refine ih 1 _ (by omega) ⟨h, by rw [hs _ rfl]; exact hy⟩ ?_
      simp -dsimp (disch := first | omega | (simp only [wr_id, LR] <;> omega) | fail) only [push_cast, wr_id, simprocAttr, -Nat.reduceSubDiff]
    · obtain ⟨q, hq⟩ := ex_get (show i - 1 < l.length by omega)
      rw [show (bif i == 0 then none else l[i - 1]?) = some q by rw [show (i == 0) = false by simp [e2]]; exact hq, show aft (some q) s = lts q s from rfl] at hy
      have e3 : ((i : Int) - 1).toNat = i - 1 := by omega
      cases e4 : lts q s with
      | false =>
        rw [e4, Bool.false_and] at hy
        simp -dsimp (disch := first | omega | (simp only [hx, hq, e1, e3, wr_id, e4, ← hy, LR] <;> omega) | fail) only [push_cast, hx, hq, e1, e3, wr_id, e4, ← hy, simprocAttr, -Nat.reduceSubDiff]
      | true =>
        rw [e4, Bool.true_and] at hy
        simp -dsimp (disch := first | omega | (simp only [hx, hq, e1, e3, wr_id, e4, LR] <;> omega) | fail) only [push_cast, hx, hq, e1, e3, wr_id, e4, simprocAttr, -Nat.reduceSubDiff]
        refine ih (i + 1) _ (by omega) ⟨h, by rw [hs _ rfl]; exact hy⟩ ?_
        simp -dsimp (disch := first | omega | (simp only [wr_id, LR] <;> omega) | fail) only [push_cast, wr_id, simprocAttr, -Nat.reduceSubDiff]
  · rw [List.drop_eq_nil_of_le (by omega), ascF] at hy
    simp -dsimp (disch := first | omega | (simp only [← hy, LR] <;> omega) | fail) only [push_cast, ← hy, simprocAttr, -Nat.reduceSubDiff]
def E55 : Env := { T := T0, kp := look [(0, [0]), (1, [1]), (2, [1, 3]), (3, [1, 3, 4]), (4, [1, 3, 4]), (5, [1, 3, 4]), (6, [3])] }
attribute [local push_cast] E55
theorem l4Bytes (s : Store) (hs : okStore s) : Does Tryz.prog 55 [.ag (storeC false s)] (.sc (.int .i64 (bytes s.I)), []) := by
  refine does_of (E := E55) (rs := [.tmp 2]) (lent := []) tOk rfl Tryz.func55 rfl (by decide) rfl rfl (Nat.le_of_ble_eq_true rfl) (Nat.le_of_ble_eq_true rfl) ?_
  have hl := hs.1.1
  have hb := bytes_le hs.1
  simp -dsimp (disch := first | omega | (simp only [LR] <;> omega) | fail) only [push_cast, simprocAttr, -Nat.reduceSubDiff]
  refine loop_ind (α := Nat) (fun i => i ≤ s.I.length) (fun i => ⟨[(1, .pt 1 0 0), (3, .sc (.int .i64 (bytes (s.I.take i)))), (4, .sc (.int .i64 i))], [(1, .bx (storeC false s))], 2⟩) (fun i => s.I.length - i) 0 (Nat.zero_le _) ?_ ?_
  · simp -dsimp (disch := first | omega | (simp only [List.take_zero, bytes, LR] <;> omega) | fail) only [push_cast, List.take_zero, bytes, simprocAttr, -Nat.reduceSubDiff]
  intro i hi ih
  by_cases h : i < s.I.length
  · obtain ⟨x, hx⟩ := ex_get h
    have h1 := bytes_app (s.I.take (i + 1)) (s.I.drop (i + 1))
    have h2 := bytes_app (s.I.take i) [x]
    rw [← take_step hx, bytes, bytes] at h2
    rw [List.take_append_drop] at h1
    have h3 := bytes_nn (s.I.drop (i + 1))
    have h4 := bytes_nn (s.I.take i)
    simp -dsimp (disch := first | omega | (simp only [hx, wr_id, LR] <;> omega) | fail) only [push_cast, hx, wr_id, simprocAttr, -Nat.reduceSubDiff]
    refine ih (i + 1) _ (by omega) h ?_
    rw [h2]
    simp -dsimp (disch := first | omega | (simp only [wr_id, Int.add_zero, LR] <;> omega) | fail) only [push_cast, wr_id, Int.add_zero, simprocAttr, -Nat.reduceSubDiff]
  · simp -dsimp (disch := first | omega | (simp only [List.take_of_length_le, LR] <;> omega) | fail) only [push_cast, List.take_of_length_le, simprocAttr, -Nat.reduceSubDiff]
def E66 : Env := { T := T0, kp := look [(0, [0]), (1, [1, 2]), (2, [1, 2]), (3, [1, 2])] }
attribute [local push_cast] E66
theorem l4Copy (s : Store) (hs : okStore s) : Does Tryz.prog 66 [.ag (storeC false s)] (.ag (storeC true s), []) := by
  refine does_of (E := E66) (rs := [.cell 2 26]) (lent := []) tOk rfl Tryz.func66 rfl (by decide) rfl rfl (Nat.le_of_ble_eq_true rfl) (Nat.le_of_ble_eq_true rfl) ?_
  have hl := hs.1.1
  have hp := hs.2.1
  (simp -dsimp (disch := first | omega | (simp only [LR] <;> omega) | fail) only [push_cast, simprocAttr, -Nat.reduceSubDiff]) <;> (repeat (refine (aw_draw (by kernel_rfl)).2 ?_; simp -dsimp (disch := first | omega | (simp only [LR] <;> omega) | fail) only [push_cast, simprocAttr, -Nat.reduceSubDiff]))
  rfl
def E64 : Env := { T := T0, kp := look [(0, [0]), (1, [1, 2]), (2, [1, 2]), (3, [1, 2])] }
attribute [local push_cast] E64
theorem copyStore (s : Store) (hs : okStore s) : Does Tryz.prog 64 [.ag (storeC false s)] (.ag (storeC true s), []) := by
  refine does_of (E := E64) (rs := [.cell 2 26]) (lent := []) tOk rfl Tryz.func64 rfl (by decide) rfl rfl (Nat.le_of_ble_eq_true rfl) (Nat.le_of_ble_eq_true rfl) ?_
  have hl := hs.1.1
  have hp := hs.2.1
  (simp -dsimp (disch := first | omega | (simp only [LR] <;> omega) | fail) only [push_cast, simprocAttr, -Nat.reduceSubDiff]) <;> (repeat (refine (aw_draw (by kernel_rfl)).2 ?_; simp -dsimp (disch := first | omega | (simp only [LR] <;> omega) | fail) only [push_cast, simprocAttr, -Nat.reduceSubDiff]))
  rfl
def E108 : Env := { T := T0, kp := look [(0, [0, 1]), (1, [0, 1]), (2, [0, 1, 5]), (3, [0, 1, 5]), (4, [0, 1, 5]), (5, []), (6, [])] }
attribute [local push_cast] E108
theorem l2In (l : List Str) (s : Str) (hl : l.length ≤ 2097152) : Does Tryz.prog 108 [.sl false 1 (l.map strR), .sc (.string s)] (.sc (.bool (inL l s)), []) := by
  refine does_of (E := E108) (rs := [.tmp 4]) (lent := []) tOk rfl Tryz.func108 rfl (by decide) rfl rfl (Nat.le_of_ble_eq_true rfl) (Nat.le_of_ble_eq_true rfl) ?_
  generalize hM : inL l s = M
  simp -dsimp (disch := first | omega | (simp only [LR] <;> omega) | fail) only [push_cast, simprocAttr, -Nat.reduceSubDiff]
  refine loop_ind (α := Nat) (fun i => i ≤ l.length ∧ inL (l.drop i) s = M) (fun i => ⟨[(0, .sl false 1 (l.map strR)), (1, .sc (.string s)), (5, .sc (.int .i64 i))], [], 1⟩) (fun i => l.length - i) 0 ⟨Nat.zero_le _, hM⟩ ?_ ?_
  · simp -dsimp (disch := first | omega | (simp only [LR] <;> omega) | fail) only [push_cast, simprocAttr, -Nat.reduceSubDiff]
  rintro i ⟨hi, hy⟩ ih
  by_cases h : i < l.length
  · obtain ⟨x, hx⟩ := ex_get h
    rw [drop_step hx] at hy
    by_cases e : x = s
    · have hy : true = M := by rw [← hy]; simp [inL, e]
      simp -dsimp (disch := first | omega | (simp only [hx, e, ← hy, LR] <;> omega) | fail) only [push_cast, hx, e, ← hy, simprocAttr, -Nat.reduceSubDiff]
    · simp -dsimp (disch := first | omega | (simp only [hx, e, LR] <;> omega) | fail) only [push_cast, hx, e, simprocAttr, -Nat.reduceSubDiff]
      refine ih (i + 1) _ (by omega) ⟨h, by rw [← hy]; simp [inL, e]⟩ ?_
      simp -dsimp (disch := first | omega | (simp only [wr_id, LR] <;> omega) | fail) only [push_cast, wr_id, simprocAttr, -Nat.reduceSubDiff]
  · rw [List.drop_eq_nil_of_le (by omega)] at hy
    have hy : false = M := by rw [← hy]; rfl
    simp -dsimp (disch := first | omega | (simp only [← hy, LR] <;> omega) | fail) only [push_cast, ← hy, simprocAttr, -Nat.reduceSubDiff]
def E9 : Env := { T := T0, kp := look [(0, [0]), (1, [1]), (2, []), (3, [1]), (4, [1, 3]), (5, [1, 3, 4]), (6, [1, 3, 4]), (7, [1, 3, 4]), (8, [1, 3, 4, 5]), (9, [1, 3, 4, 5, 6]), (10, []), (11, [1, 4, 6]), (12, [1]), (13, [1, 7]), (14, [1, 7]), (15, [1, 7]), (16, []), (17, [1])], dp := look2 [(15, [[], [0], [], [0, 1, 2], [0, 1, 2, 3], [0, 1, 2, 3, 4], [], [6], [0, 1, 2, 3, 4, 5, 6, 7], [0, 1, 2, 3, 4, 5, 6, 7, 8], [0, 1, 2, 3, 4, 5, 6, 7, 8, 9], [0, 1, 2, 3, 4, 5, 6, 7, 8, 9, 10], [0, 1, 2, 3, 4, 5, 6, 7, 8, 9, 10, 11], [0, 1, 2, 3, 4, 5, 6, 7, 8, 9, 10, 11, 12], [0, 1, 2, 3, 4, 5, 6, 7, 8, 9, 10, 11, 12, 13], [0, 1, 2, 3, 4, 5, 6, 7, 8, 9, 10, 11, 12], [0, 1, 2, 3, 4, 5, 6, 7, 8, 9, 10, 11, 12, 15], [0, 1, 2, 3, 4, 5, 6, 7, 8, 9, 10, 11, 12, 13, 14, 15, 16], [0, 1, 2, 3, 4, 5, 6, 7, 8, 9, 10, 11, 12, 13, 14, 15, 16, 17], [0, 1, 2, 3, 4, 5, 6, 7, 8, 9, 10, 11, 12], [0, 1, 2, 3, 4, 5, 6, 7, 8, 9, 10, 11, 12, 19], [0, 1, 2, 3, 4, 5, 6, 7, 8, 9, 10, 11, 12], [0, 1, 2, 3, 4, 5, 6, 7, 8, 9, 10, 11, 12, 19, 20, 21], [0, 1, 2, 3, 4, 5, 6, 7, 8, 9, 10, 11, 12, 19, 20, 21, 22], [0, 1, 2, 3, 4, 5, 6, 7, 8, 9, 10, 11, 12, 13, 14, 15, 16, 17, 18, 19, 20, 21, 22, 23], [0, 1, 2, 3, 4, 5, 6, 7, 8, 9, 10, 11, 12, 13, 14, 15, 16, 17, 18, 19, 20, 21, 22, 23, 24], [0, 1, 2, 3, 4, 5, 6, 7, 8, 9, 10, 11, 12, 13, 14, 15, 16, 17, 18, 19, 20, 21, 22, 23, 24, 25]]), (17, [[], [0], [], [2], [0, 1, 2, 3], [0, 1, 2, 3, 4]])] }
attribute [local push_cast] E9
set_option maxHeartbeats 1000000 in
theorem specValidStore (s : Store) (hs : okStore s) : Does Tryz.prog 9 [.ag (storeC false s)] (.sc (.bool (validSt s)), []) := by
  refine does_of (E := E9) (rs := [.tmp 2]) (lent := []) tOk rfl Tryz.func9 rfl (by decide) rfl rfl (Nat.le_of_ble_eq_true rfl) (Nat.le_of_ble_eq_true rfl) ?_
  have hl := hs.1.1
  have hp := hs.2.1
  (simp -dsimp (disch := first | omega | (simp only [LR] <;> omega) | fail) only [push_cast, simprocAttr, -Nat.reduceSubDiff]) <;> (repeat (refine (aw_draw (by kernel_rfl)).2 ?_; simp -dsimp (disch := first | omega | (simp only [LR] <;> omega) | fail) only [push_cast, simprocAttr, -Nat.reduceSubDiff]))
  refine callC (l1Width ..) ?_
  by_cases c1 : inB s.w 1 8 = true
  rotate_left
  · have hv : validSt s = false := by simp [validSt, c1]
    (simp -dsimp (disch := first | omega | (simp only [c1, hv, LR] <;> omega) | fail) only [push_cast, c1, hv, simprocAttr, -Nat.reduceSubDiff]) <;> (repeat (refine (aw_draw (by kernel_rfl)).2 ?_; simp -dsimp (disch := first | omega | (simp only [c1, hv, LR] <;> omega) | fail) only [push_cast, c1, hv, simprocAttr, -Nat.reduceSubDiff]))
  (simp -dsimp (disch := first | omega | (simp only [c1, LR] <;> omega) | fail) only [push_cast, c1, simprocAttr, -Nat.reduceSubDiff]) <;> (repeat (refine (aw_draw (by kernel_rfl)).2 ?_; simp -dsimp (disch := first | omega | (simp only [c1, LR] <;> omega) | fail) only [push_cast, c1, simprocAttr, -Nat.reduceSubDiff]))
  refine callC (l1In ..) ?_
  by_cases c2 : inB s.r 0 60000 = true
  rotate_left
  · have hv : validSt s = false := by simp [validSt, c2]
    (simp -dsimp (disch := first | omega | (simp only [c2, hv, LR] <;> omega) | fail) only [push_cast, c2, hv, simprocAttr, -Nat.reduceSubDiff]) <;> (repeat (refine (aw_draw (by kernel_rfl)).2 ?_; simp -dsimp (disch := first | omega | (simp only [c2, hv, LR] <;> omega) | fail) only [push_cast, c2, hv, simprocAttr, -Nat.reduceSubDiff]))
  by_cases c3 : s.I.length ≤ 1000
  rotate_left
  · have hv : validSt s = false := by simp [validSt, c3]
    (simp -dsimp (disch := first | omega | (simp only [c2, hv, LR] <;> omega) | fail) only [push_cast, c2, hv, simprocAttr, -Nat.reduceSubDiff]) <;> (repeat (refine (aw_draw (by kernel_rfl)).2 ?_; simp -dsimp (disch := first | omega | (simp only [c2, hv, LR] <;> omega) | fail) only [push_cast, c2, hv, simprocAttr, -Nat.reduceSubDiff]))
  by_cases c4 : s.P.length ≤ 10
  rotate_left
  · have hv : validSt s = false := by simp [validSt, c4]
    (simp -dsimp (disch := first | omega | (simp only [c2, hv, LR] <;> omega) | fail) only [push_cast, c2, hv, simprocAttr, -Nat.reduceSubDiff]) <;> (repeat (refine (aw_draw (by kernel_rfl)).2 ?_; simp -dsimp (disch := first | omega | (simp only [c2, hv, LR] <;> omega) | fail) only [push_cast, c2, hv, simprocAttr, -Nat.reduceSubDiff]))
  obtain ⟨R, hR⟩ : ∃ R, R = (ascF s.w none s.P && decide (bytes s.I ≤ s.r)) := ⟨_, rfl⟩
  obtain ⟨M, hM⟩ : ∃ M, M = validSt s := ⟨_, rfl⟩
  rw [← hM]
  have hv : (itF s.w none s.I && R) = M := by
    simp only [hM, validSt, c1, c2, c3, c4, hR, decide_true, Bool.true_and]
    cases itF s.w none s.I <;> simp
  clear hM
  (simp -dsimp (disch := first | omega | (simp only [c2, LR] <;> omega) | fail) only [push_cast, c2, simprocAttr, -Nat.reduceSubDiff]) <;> (repeat (refine (aw_draw (by kernel_rfl)).2 ?_; simp -dsimp (disch := first | omega | (simp only [c2, LR] <;> omega) | fail) only [push_cast, c2, simprocAttr, -Nat.reduceSubDiff]))
  refine loop_ind (α := Nat × Option Str) (fun p => p.1 ≤ s.I.length ∧ (p.2 = none ↔ p.1 = 0) ∧ (itF s.w p.2 (s.I.drop p.1) && R) = M) (fun p => ⟨[(1, .pt 1 0 0), (3, .sc (.string (p.2.getD em))), (4, .sc (.int .i64 p.1))], [(1, .bx (storeC false s))], 2⟩) (fun p => s.I.length - p.1) (0, none) ⟨Nat.zero_le _, by simp, hv⟩ ?_ ?_
  · simp -dsimp (disch := first | omega | (simp only [em, LR] <;> omega) | fail) only [push_cast, em, simprocAttr, -Nat.reduceSubDiff]
  rintro ⟨i, p⟩ ⟨hi, hp0, hy⟩ ih
  dsimp only at hi hp0 hy
  by_cases h : i < s.I.length
  · obtain ⟨x, hx⟩ := ex_get h
    have hxb : x.t.size ≤ 2097152 := hs.1.2 x (List.mem_of_getElem? hx)
    rw [drop_step hx, itF] at hy
    simp -dsimp (disch := first | omega | (simp only [hx, LR] <;> omega) | fail) only [push_cast, hx, simprocAttr, -Nat.reduceSubDiff]
    refine callC (specSum _ _ (by omega)) ?_
    simp -dsimp (disch := first | omega | (simp only [LR] <;> omega) | fail) only [push_cast, simprocAttr, -Nat.reduceSubDiff]
    refine callC (l1In ..) ?_
    cases d1 : inB x.t.size 1 7000 with
    | false =>
      rw [d1, Bool.false_and, Bool.false_and, Bool.false_and, Bool.false_and] at hy
      (simp -dsimp (disch := first | omega | (simp only [← hy, LR] <;> omega) | fail) only [push_cast, ← hy, simprocAttr, -Nat.reduceSubDiff]) <;> (repeat (refine (aw_draw (by kernel_rfl)).2 ?_; simp -dsimp (disch := first | omega | (simp only [← hy, LR] <;> omega) | fail) only [push_cast, ← hy, simprocAttr, -Nat.reduceSubDiff]))
    | true =>
    rw [d1, Bool.true_and] at hy
    simp -dsimp (disch := first | omega | (simp only [LR] <;> omega) | fail) only [push_cast, simprocAttr, -Nat.reduceSubDiff]
    refine callC (l1In ..) ?_
    cases d2 : inB x.u 0 1000000 with
    | false =>
      rw [d2, Bool.false_and, Bool.false_and, Bool.false_and] at hy
      (simp -dsimp (disch := first | omega | (simp only [← hy, LR] <;> omega) | fail) only [push_cast, ← hy, simprocAttr, -Nat.reduceSubDiff]) <;> (repeat (refine (aw_draw (by kernel_rfl)).2 ?_; simp -dsimp (disch := first | omega | (simp only [← hy, LR] <;> omega) | fail) only [push_cast, ← hy, simprocAttr, -Nat.reduceSubDiff]))
    | true =>
    rw [d2, Bool.true_and] at hy
    cases p with
    | none =>
      obtain rfl := hp0.1 rfl
      rw [show aft none (sumS x.t s.w) = true from rfl, Bool.true_and] at hy
      simp -dsimp (disch := first | omega | (simp only [LR] <;> omega) | fail) only [push_cast, simprocAttr, -Nat.reduceSubDiff]
      refine ih (1, some (sumS x.t s.w)) _ (by simp; omega) ⟨h, by simp, hy⟩ ?_
      simp -dsimp (disch := first | omega | (simp only [wr_id, LR] <;> omega) | fail) only [push_cast, wr_id, simprocAttr, -Nat.reduceSubDiff]
    | some q =>
      have hi0 : i ≠ 0 := fun e => by have := hp0.2 e; cases this
      cases d3 : lts q (sumS x.t s.w) with
      | false =>
        rw [show aft (some q) (sumS x.t s.w) = lts q (sumS x.t s.w) from rfl, d3, Bool.false_and, Bool.false_and] at hy
        (simp -dsimp (disch := first | omega | (simp only [d3, ← hy, LR] <;> omega) | fail) only [push_cast, d3, ← hy, simprocAttr, -Nat.reduceSubDiff]) <;> (repeat (refine (aw_draw (by kernel_rfl)).2 ?_; simp -dsimp (disch := first | omega | (simp only [d3, ← hy, LR] <;> omega) | fail) only [push_cast, d3, ← hy, simprocAttr, -Nat.reduceSubDiff]))
      | true =>
        rw [show aft (some q) (sumS x.t s.w) = lts q (sumS x.t s.w) from rfl, d3, Bool.true_and] at hy
        simp -dsimp (disch := first | omega | (simp only [d3, LR] <;> omega) | fail) only [push_cast, d3, simprocAttr, -Nat.reduceSubDiff]
        refine ih (i + 1, some (sumS x.t s.w)) _ (by simp; omega) ⟨h, by simp, hy⟩ ?_
        simp -dsimp (disch := first | omega | (simp only [wr_id, LR] <;> omega) | fail) only [push_cast, wr_id, simprocAttr, -Nat.reduceSubDiff]
  rw [List.drop_eq_nil_of_le (by omega), itF, Bool.true_and] at hy
  obtain ⟨B, hB⟩ : ∃ B, B = decide (bytes s.I ≤ s.r) := ⟨_, rfl⟩
  rw [← hB] at hR
  rw [hR] at hy
  simp -dsimp (disch := first | omega | (simp only [LR] <;> omega) | fail) only [push_cast, simprocAttr, -Nat.reduceSubDiff]
  refine loop_ind (α := Nat) (fun i => i ≤ s.P.length ∧ (ascF s.w (bif i == 0 then none else s.P[i - 1]?) (s.P.drop i) && B) = M) (fun i => ⟨[(1, .pt 1 0 0), (7, .sc (.int .i64 i))], [(1, .bx (storeC false s))], 2⟩) (fun i => s.P.length - i) 0 ⟨Nat.zero_le _, hy⟩ ?_ ?_
  · simp -dsimp (disch := first | omega | (simp only [LR] <;> omega) | fail) only [push_cast, simprocAttr, -Nat.reduceSubDiff]
  clear hy hi hp0 ih h
  rintro i ⟨hi, hy⟩ ih
  by_cases h : i < s.P.length
  · obtain ⟨x, hx⟩ := ex_get h
    rw [drop_step hx, ascF] at hy
    have hs : ∀ P, (bif i + 1 == 0 then none else s.P[i + 1 - 1]?) = P → P = some x := fun P e => by rw [← e, show (i + 1 == 0) = false by simp, cond_false, Nat.add_sub_cancel, hx]
    by_cases e1 : (x.size : Int) = s.w
    rotate_left
    · rw [show decide ((x.size : Int) = s.w) = false by simp [e1], Bool.false_and, Bool.false_and, Bool.false_and] at hy
      (simp -dsimp (disch := first | omega | (simp only [hx, e1, ← hy, LR] <;> omega) | fail) only [push_cast, hx, e1, ← hy, simprocAttr, -Nat.reduceSubDiff]) <;> (repeat (refine (aw_draw (by kernel_rfl)).2 ?_; simp -dsimp (disch := first | omega | (simp only [hx, e1, ← hy, LR] <;> omega) | fail) only [push_cast, hx, e1, ← hy, simprocAttr, -Nat.reduceSubDiff]))
    rw [show decide ((x.size : Int) = s.w) = true by simp [e1], Bool.true_and] at hy
    by_cases e2 : i = 0
    · subst e2
      rw [show aft (bif 0 == 0 then none else s.P[0 - 1]?) x = true from rfl, Bool.true_and] at hy
      (simp -dsimp (disch := first | omega | (simp only [hx, e1, LR] <;> omega) | fail) only [push_cast, hx, e1, simprocAttr, -Nat.reduceSubDiff]) <;> (repeat (refine (aw_draw (by kernel_rfl)).2 ?_; simp -dsimp (disch := first | omega | (simp only [hx, e1, LR] <;> omega) | fail) only [push_cast, hx, e1, simprocAttr, -Nat.reduceSubDiff]))
      refine ih 1 _ (by omega) ⟨h, by rw [hs _ rfl]; exact hy⟩ ?_
      simp -dsimp (disch := first | omega | (simp only [wr_id, LR] <;> omega) | fail) only [push_cast, wr_id, simprocAttr, -Nat.reduceSubDiff]
    · obtain ⟨q, hq⟩ := ex_get (show i - 1 < s.P.length by omega)
      rw [show (bif i == 0 then none else s.P[i - 1]?) = some q by rw [show (i == 0) = false by simp [e2]]; exact hq, show aft (some q) x = lts q x from rfl] at hy
      have e3 : ((i : Int) - 1).toNat = i - 1 := by omega
      cases e4 : lts q x with
      | false =>
        rw [e4, Bool.false_and, Bool.false_and] at hy
        (simp -dsimp (disch := first | omega | (simp only [hx, hq, e1, e3, wr_id, e4, ← hy, LR] <;> omega) | fail) only [push_cast, hx, hq, e1, e3, wr_id, e4, ← hy, simprocAttr, -Nat.reduceSubDiff]) <;> (repeat (refine (aw_draw (by kernel_rfl)).2 ?_; simp -dsimp (disch := first | omega | (simp only [hx, hq, e1, e3, wr_id, e4, ← hy, LR] <;> omega) | fail) only [push_cast, hx, hq, e1, e3, wr_id, e4, ← hy, simprocAttr, -Nat.reduceSubDiff]))
      | true =>
        rw [e4, Bool.true_and] at hy
        (simp -dsimp (disch := first | omega | (simp only [hx, hq, e1, e3, wr_id, e4, LR] <;> omega) | fail) only [push_cast, hx, hq, e1, e3, wr_id, e4, simprocAttr, -Nat.reduceSubDiff]) <;> (repeat (refine (aw_draw (by kernel_rfl)).2 ?_; simp -dsimp (disch := first | omega | (simp only [hx, hq, e1, e3, wr_id, e4, LR] <;> omega) | fail) only [push_cast, hx, hq, e1, e3, wr_id, e4, simprocAttr, -Nat.reduceSubDiff]))
        refine ih (i + 1) _ (by omega) ⟨h, by rw [hs _ rfl]; exact hy⟩ ?_
        simp -dsimp (disch := first | omega | (simp only [wr_id, LR] <;> omega) | fail) only [push_cast, wr_id, simprocAttr, -Nat.reduceSubDiff]
  · rw [List.drop_eq_nil_of_le (by omega), ascF, Bool.true_and] at hy
    (simp -dsimp (disch := first | omega | (simp only [LR] <;> omega) | fail) only [push_cast, simprocAttr, -Nat.reduceSubDiff]) <;> (repeat (refine (aw_draw (by kernel_rfl)).2 ?_; simp -dsimp (disch := first | omega | (simp only [LR] <;> omega) | fail) only [push_cast, simprocAttr, -Nat.reduceSubDiff]))
    refine callC (l4Bytes s hs) ?_
    (simp -dsimp (disch := first | omega | (simp only [← hy, hB, LR] <;> omega) | fail) only [push_cast, ← hy, hB, simprocAttr, -Nat.reduceSubDiff]) <;> (repeat (refine (aw_draw (by kernel_rfl)).2 ?_; simp -dsimp (disch := first | omega | (simp only [← hy, hB, LR] <;> omega) | fail) only [push_cast, ← hy, hB, simprocAttr, -Nat.reduceSubDiff]))
end Go.Proofs.YtkkmgjhfjhcdmaaGreatDoor.Mx

/- Stores: valid (the program's). -/
namespace Go.Proofs.YtkkmgjhfjhcdmaaGreatDoor.Mx
set_option linter.all false
open Go Go.RowKit Go.Proofs
set_option linter.unusedSimpArgs false
theorem inB_def (a b c : Int) : inB a b c = (decide (b ≤ a) && decide (a ≤ c)) := by
  unfold inB; by_cases h : b ≤ a <;> by_cases h2 : a ≤ c <;> simp [h, h2]
def E10 : Env := { T := T0, kp := look [(0, [0]), (1, [1]), (2, []), (3, [1]), (4, [1, 3]), (5, [1, 3, 4]), (6, [1, 3, 4, 43, 44, 45]), (7, [1, 3, 4, 43, 44, 45]), (8, [1, 3, 4, 5, 6, 43, 44, 45]), (9, [1, 3, 4, 5, 6, 7, 43, 44, 45]), (10, []), (11, [1, 3, 6, 7, 43, 44, 45]), (12, [1, 3, 4, 6, 43, 44, 45]), (13, [1, 3, 4, 43, 44, 45]), (14, [1, 3])] }
attribute [local push_cast] E10
set_option maxHeartbeats 1000000 in
theorem implValidStore (s : Store) (hs : okStore s) : Does Tryz.prog 10 [.ag (storeC false s)] (.sc (.bool (validSt s)), []) := by
  refine does_of (E := E10) (rs := [.tmp 2]) (lent := []) tOk rfl Tryz.func10 rfl (by decide) rfl rfl (Nat.le_of_ble_eq_true rfl) (Nat.le_of_ble_eq_true rfl) ?_
  have hl := hs.1.1
  have hp := hs.2.1
  have hbb := bytes_le hs.1
  (simp -dsimp (disch := first | omega | (simp only [LR] <;> omega) | fail) only [push_cast, simprocAttr, -Nat.reduceSubDiff]) <;> (repeat (refine (aw_draw (by kernel_rfl)).2 ?_; simp -dsimp (disch := first | omega | (simp only [LR] <;> omega) | fail) only [push_cast, simprocAttr, -Nat.reduceSubDiff]))
  refine callC (widthOk ..) ?_
  by_cases c1 : inB s.w 1 8 = true
  rotate_left
  · have hv : validSt s = false := by simp [validSt, c1]
    (simp -dsimp (disch := first | omega | (simp only [c1, hv, LR] <;> omega) | fail) only [push_cast, c1, hv, simprocAttr, -Nat.reduceSubDiff]) <;> (repeat (refine (aw_draw (by kernel_rfl)).2 ?_; simp -dsimp (disch := first | omega | (simp only [c1, hv, LR] <;> omega) | fail) only [push_cast, c1, hv, simprocAttr, -Nat.reduceSubDiff]))
  by_cases c2 : 0 ≤ s.r
  rotate_left
  · have hv : validSt s = false := by simp [validSt, inB_def, c2]
    (simp -dsimp (disch := first | omega | (simp only [c1, hv, LR] <;> omega) | fail) only [push_cast, c1, hv, simprocAttr, -Nat.reduceSubDiff]) <;> (repeat (refine (aw_draw (by kernel_rfl)).2 ?_; simp -dsimp (disch := first | omega | (simp only [c1, hv, LR] <;> omega) | fail) only [push_cast, c1, hv, simprocAttr, -Nat.reduceSubDiff]))
  by_cases c2b : s.r ≤ 60000
  rotate_left
  · have hv : validSt s = false := by simp [validSt, inB_def, c2b]
    (simp -dsimp (disch := first | omega | (simp only [c1, hv, LR] <;> omega) | fail) only [push_cast, c1, hv, simprocAttr, -Nat.reduceSubDiff]) <;> (repeat (refine (aw_draw (by kernel_rfl)).2 ?_; simp -dsimp (disch := first | omega | (simp only [c1, hv, LR] <;> omega) | fail) only [push_cast, c1, hv, simprocAttr, -Nat.reduceSubDiff]))
  by_cases c3 : s.I.length ≤ 1000
  rotate_left
  · have hv : validSt s = false := by simp [validSt, c3]
    (simp -dsimp (disch := first | omega | (simp only [c1, hv, LR] <;> omega) | fail) only [push_cast, c1, hv, simprocAttr, -Nat.reduceSubDiff]) <;> (repeat (refine (aw_draw (by kernel_rfl)).2 ?_; simp -dsimp (disch := first | omega | (simp only [c1, hv, LR] <;> omega) | fail) only [push_cast, c1, hv, simprocAttr, -Nat.reduceSubDiff]))
  by_cases c4 : s.P.length ≤ 10
  rotate_left
  · have hv : validSt s = false := by simp [validSt, c4]
    (simp -dsimp (disch := first | omega | (simp only [c1, hv, LR] <;> omega) | fail) only [push_cast, c1, hv, simprocAttr, -Nat.reduceSubDiff]) <;> (repeat (refine (aw_draw (by kernel_rfl)).2 ?_; simp -dsimp (disch := first | omega | (simp only [c1, hv, LR] <;> omega) | fail) only [push_cast, c1, hv, simprocAttr, -Nat.reduceSubDiff]))
  (simp -dsimp (disch := first | omega | (simp only [c1, LR] <;> omega) | fail) only [push_cast, c1, simprocAttr, -Nat.reduceSubDiff]) <;> (repeat (refine (aw_draw (by kernel_rfl)).2 ?_; simp -dsimp (disch := first | omega | (simp only [c1, LR] <;> omega) | fail) only [push_cast, c1, simprocAttr, -Nat.reduceSubDiff]))
  refine callC (ascending _ _ hp) ?_
  cases c5 : ascF s.w none s.P with
  | false =>
    have hv : validSt s = false := by simp [validSt, c5]
    (simp -dsimp (disch := first | omega | (simp only [hv, LR] <;> omega) | fail) only [push_cast, hv, simprocAttr, -Nat.reduceSubDiff]) <;> (repeat (refine (aw_draw (by kernel_rfl)).2 ?_; simp -dsimp (disch := first | omega | (simp only [hv, LR] <;> omega) | fail) only [push_cast, hv, simprocAttr, -Nat.reduceSubDiff]))
  | true =>
  obtain ⟨R, hR⟩ : ∃ R, R = decide (bytes s.I ≤ s.r) := ⟨_, rfl⟩
  obtain ⟨M, hM⟩ : ∃ M, M = validSt s := ⟨_, rfl⟩
  rw [← hM]
  have hv : (itF s.w none s.I && R) = M := by
    simp only [hM, validSt, inB_def s.r, c1, c2, c2b, c3, c4, c5, hR, decide_true, Bool.true_and]
  clear hM
  (simp -dsimp (disch := first | omega | (simp only [LR] <;> omega) | fail) only [push_cast, simprocAttr, -Nat.reduceSubDiff]) <;> (repeat (refine (aw_draw (by kernel_rfl)).2 ?_; simp -dsimp (disch := first | omega | (simp only [LR] <;> omega) | fail) only [push_cast, simprocAttr, -Nat.reduceSubDiff]))
  refine loop_ind (α := Nat × Option Str) (fun p => p.1 ≤ s.I.length ∧ (p.2 = none ↔ p.1 = 0) ∧ (itF s.w p.2 (s.I.drop p.1) && R) = M) (fun p => ⟨[(1, .pt 1 0 0), (3, .sc (.int .i64 (bytes (s.I.take p.1)))), (4, .sc (.string (p.2.getD em))), (43, .sl false 2 (s.I.map (itemC false))), (44, .sc (.int .i64 s.I.length)), (45, .sc (.int .i64 p.1))], [(1, .bx (storeC false s))], 2⟩) (fun p => s.I.length - p.1) (0, none) ⟨Nat.zero_le _, by simp, hv⟩ ?_ ?_
  · simp -dsimp (disch := first | omega | (simp only [em, List.take_zero, bytes, LR] <;> omega) | fail) only [push_cast, em, List.take_zero, bytes, simprocAttr, -Nat.reduceSubDiff]
  rintro ⟨i, p⟩ ⟨hi, hp0, hy⟩ ih
  dsimp only at hi hp0 hy
  by_cases h : i < s.I.length
  · obtain ⟨x, hx⟩ := ex_get h
    have hxb : x.t.size ≤ 2097152 := hs.1.2 x (List.mem_of_getElem? hx)
    have h1 := bytes_app (s.I.take (i + 1)) (s.I.drop (i + 1))
    have h2 := bytes_app (s.I.take i) [x]
    rw [← take_step hx, bytes, bytes] at h2
    rw [List.take_append_drop] at h1
    have h3 := bytes_nn (s.I.drop (i + 1))
    have h4 := bytes_nn (s.I.take i)
    rw [Int.add_zero] at h2
    rw [drop_step hx, itF] at hy
    simp -dsimp (disch := first | omega | (simp only [hx, LR] <;> omega) | fail) only [push_cast, hx, simprocAttr, -Nat.reduceSubDiff]
    refine callC (implSum _ _ (by omega)) ?_
    simp -dsimp (disch := first | omega | (simp only [LR] <;> omega) | fail) only [push_cast, simprocAttr, -Nat.reduceSubDiff]
    cases d1 : inB x.t.size 1 7000 with
    | false =>
      rw [d1, Bool.false_and, Bool.false_and, Bool.false_and, Bool.false_and] at hy
      by_cases d1a : 1 ≤ (x.t.size : Int)
      · have d1b : ¬ (x.t.size : Int) ≤ 7000 := fun e => by rw [inB_def, decide_eq_true d1a, decide_eq_true e] at d1; cases d1
        (simp -dsimp (disch := first | omega | (simp only [← hy, LR] <;> omega) | fail) only [push_cast, ← hy, simprocAttr, -Nat.reduceSubDiff]) <;> (repeat (refine (aw_draw (by kernel_rfl)).2 ?_; simp -dsimp (disch := first | omega | (simp only [← hy, LR] <;> omega) | fail) only [push_cast, ← hy, simprocAttr, -Nat.reduceSubDiff]))
      · (simp -dsimp (disch := first | omega | (simp only [← hy, LR] <;> omega) | fail) only [push_cast, ← hy, simprocAttr, -Nat.reduceSubDiff]) <;> (repeat (refine (aw_draw (by kernel_rfl)).2 ?_; simp -dsimp (disch := first | omega | (simp only [← hy, LR] <;> omega) | fail) only [push_cast, ← hy, simprocAttr, -Nat.reduceSubDiff]))
    | true =>
    have d1a : 1 ≤ (x.t.size : Int) ∧ (x.t.size : Int) ≤ 7000 := by unfold inB at d1; exact of_decide_eq_true d1
    rw [d1, Bool.true_and] at hy
    cases d2 : inB x.u 0 1000000 with
    | false =>
      rw [d2, Bool.false_and, Bool.false_and, Bool.false_and] at hy
      by_cases d1a : 0 ≤ x.u
      · have d1b : ¬ x.u ≤ 1000000 := fun e => by rw [inB_def, decide_eq_true d1a, decide_eq_true e] at d2; cases d2
        (simp -dsimp (disch := first | omega | (simp only [← hy, LR] <;> omega) | fail) only [push_cast, ← hy, simprocAttr, -Nat.reduceSubDiff]) <;> (repeat (refine (aw_draw (by kernel_rfl)).2 ?_; simp -dsimp (disch := first | omega | (simp only [← hy, LR] <;> omega) | fail) only [push_cast, ← hy, simprocAttr, -Nat.reduceSubDiff]))
      · (simp -dsimp (disch := first | omega | (simp only [← hy, LR] <;> omega) | fail) only [push_cast, ← hy, simprocAttr, -Nat.reduceSubDiff]) <;> (repeat (refine (aw_draw (by kernel_rfl)).2 ?_; simp -dsimp (disch := first | omega | (simp only [← hy, LR] <;> omega) | fail) only [push_cast, ← hy, simprocAttr, -Nat.reduceSubDiff]))
    | true =>
    have d2a : 0 ≤ x.u ∧ x.u ≤ 1000000 := by unfold inB at d2; exact of_decide_eq_true d2
    rw [d2, Bool.true_and] at hy
    cases p with
    | none =>
      obtain rfl := hp0.1 rfl
      rw [show aft none (sumS x.t s.w) = true from rfl, Bool.true_and] at hy
      simp -dsimp (disch := first | omega | (simp only [LR] <;> omega) | fail) only [push_cast, simprocAttr, -Nat.reduceSubDiff]
      refine ih (1, some (sumS x.t s.w)) _ (by simp; omega) ⟨h, by simp, hy⟩ ?_
      simp only [] at h2 ⊢
      rw [h2]
      simp -dsimp (disch := first | omega | (simp only [wr_id, List.take_zero, bytes, LR] <;> omega) | fail) only [push_cast, wr_id, List.take_zero, bytes, simprocAttr, -Nat.reduceSubDiff]
    | some q =>
      have hi0 : i ≠ 0 := fun e => by have := hp0.2 e; cases this
      cases d3 : lts q (sumS x.t s.w) with
      | false =>
        rw [show aft (some q) (sumS x.t s.w) = lts q (sumS x.t s.w) from rfl, d3, Bool.false_and, Bool.false_and] at hy
        (simp -dsimp (disch := first | omega | (simp only [d3, ← hy, LR] <;> omega) | fail) only [push_cast, d3, ← hy, simprocAttr, -Nat.reduceSubDiff]) <;> (repeat (refine (aw_draw (by kernel_rfl)).2 ?_; simp -dsimp (disch := first | omega | (simp only [d3, ← hy, LR] <;> omega) | fail) only [push_cast, d3, ← hy, simprocAttr, -Nat.reduceSubDiff]))
      | true =>
        rw [show aft (some q) (sumS x.t s.w) = lts q (sumS x.t s.w) from rfl, d3, Bool.true_and] at hy
        simp -dsimp (disch := first | omega | (simp only [d3, LR] <;> omega) | fail) only [push_cast, d3, simprocAttr, -Nat.reduceSubDiff]
        refine ih (i + 1, some (sumS x.t s.w)) _ (by simp; omega) ⟨h, by simp, hy⟩ ?_
        simp only []
        rw [h2]
        simp -dsimp (disch := first | omega | (simp only [wr_id, LR] <;> omega) | fail) only [push_cast, wr_id, simprocAttr, -Nat.reduceSubDiff]
  rw [List.drop_eq_nil_of_le (by omega), itF, Bool.true_and] at hy
  (simp -dsimp (disch := first | omega | (simp only [← hy, hR, List.take_of_length_le, LR] <;> omega) | fail) only [push_cast, ← hy, hR, List.take_of_length_le, simprocAttr, -Nat.reduceSubDiff]) <;> (repeat (refine (aw_draw (by kernel_rfl)).2 ?_; simp -dsimp (disch := first | omega | (simp only [← hy, hR, List.take_of_length_le, LR] <;> omega) | fail) only [push_cast, ← hy, hR, List.take_of_length_le, simprocAttr, -Nat.reduceSubDiff]))
end Go.Proofs.YtkkmgjhfjhcdmaaGreatDoor.Mx

/- The draws of the reference. -/
namespace Go.Proofs.YtkkmgjhfjhcdmaaGreatDoor.Mx
set_option linter.all false
open Go Go.RowKit Go.Proofs
set_option linter.unusedSimpArgs false
@[push_cast] theorem rd_num (l : List Int) : rdR (l.map numR) = l.map numR := by simp [rdR, numR, rdC]
/-- a reader: code and place -/
@[push_cast] def rdC1 (c : List Int) (p : Int) : Row := [.sl false 1 (c.map numR), .sc (.int .i64 p)]
def E60 : Env := { T := T0, kp := look [(0, [0, 1]), (1, [0, 1]), (2, [0, 1]), (3, [0]), (4, [0, 1]), (5, [0, 1, 5]), (6, [0, 1, 5]), (7, [0, 1, 5]), (8, [0, 1, 6]), (9, [0, 1, 6])], dp := look2 [(7, [[], [0], [0, 1], [0, 1, 2], [], [], [5], [5, 6], [5, 6, 7], [5, 6, 7, 8], [4, 5, 6, 7, 8, 9], [0, 1, 2, 3, 4, 5, 6, 7, 8, 9, 10], [0, 1, 2, 3, 4, 5, 6, 7, 8, 9, 10, 11], [0, 1, 2, 3, 4, 5, 6, 7, 8, 9, 10, 11, 12], [0, 1, 2, 3, 4, 5, 6, 7, 8, 9, 10, 11, 12, 13], [], [15], [15, 16], [15, 16, 17], [], [19], [19, 20], [], [22], [22, 23], [22, 23, 24], [22, 23, 24, 25], [19, 20, 21, 22, 23, 24, 25, 26], [15, 16, 17, 18, 19, 20, 21, 22, 23, 24, 25, 26, 27], [15, 16, 17, 18, 19, 20, 21, 22, 23, 24, 25, 26, 27, 28], [15, 16, 17, 18, 19, 20, 21, 22, 23, 24, 25, 26, 27, 28, 29], [15, 16, 17, 18, 19, 20, 21, 22, 23, 24, 25, 26, 27, 28, 29, 30], [0, 1, 2, 3, 4, 5, 6, 7, 8, 9, 10, 11, 12, 13, 14, 15, 16, 17, 18, 19, 20, 21, 22, 23, 24, 25, 26, 27, 28, 29, 30, 31], [], [33], [0, 1, 2, 3, 4, 5, 6, 7, 8, 9, 10, 11, 12, 13, 14, 15, 16, 17, 18, 19, 20, 21, 22, 23, 24, 25, 26, 27, 28, 29, 30, 31, 32, 33, 34], [], [], [37], [37, 38], [37, 38, 39], [37, 38, 39, 40], [36, 37, 38, 39, 40, 41], [36, 37, 38, 39, 40, 41, 42], [0, 1, 2, 3, 4, 5, 6, 7, 8, 9, 10, 11, 12, 13, 14, 15, 16, 17, 18, 19, 20, 21, 22, 23, 24, 25, 26, 27, 28, 29, 30, 31, 32, 33, 34, 35, 36, 37, 38, 39, 40, 41, 42, 43], [0, 1, 2, 3, 4, 5, 6, 7, 8, 9, 10, 11, 12, 13, 14, 15, 16, 17, 18, 19, 20, 21, 22, 23, 24, 25, 26, 27, 28, 29, 30, 31, 32, 33, 34, 35, 36, 37, 38, 39, 40, 41, 42, 43, 44]])] }
attribute [local push_cast] E60
set_option maxRecDepth 20000 in
set_option maxHeartbeats 4000000 in
theorem pick (c : List Int) (p n : Int) (hc : okCode c) (hp : 0 ≤ p) (hp2 : p ≤ 1000000) (hn : n ≤ 1000000) : Does Tryz.prog 60 [.pb true (rdC1 c p), .sc (.int .i64 n)] (.sc (.int .i64 (pickF c p n)), [some (.pb true (rdC1 c (p + 1)))]) := by
  refine does_of (E := E60) (rs := [.tmp 4]) (lent := [true]) tOk rfl Tryz.func60 rfl (by decide) rfl rfl (Nat.le_of_ble_eq_true rfl) (Nat.le_of_ble_eq_true rfl) ?_
  obtain ⟨M, hM⟩ : ∃ M, M = pickF c p n := ⟨_, rfl⟩
  rw [← hM]
  unfold pickF at hM
  by_cases h1 : n < 1
  · rw [if_pos (.inl h1)] at hM
    subst hM
    (simp -dsimp (disch := first | omega | (simp only [h1, wr_id, LR] <;> omega) | fail) only [push_cast, h1, wr_id, simprocAttr, -Nat.reduceSubDiff]) <;> (repeat (refine (aw_draw (by kernel_rfl)).2 ?_; simp -dsimp (disch := first | omega | (simp only [h1, wr_id, LR] <;> omega) | fail) only [push_cast, h1, wr_id, simprocAttr, -Nat.reduceSubDiff]))
  by_cases h2 : c.length = 0
  · rw [if_pos (.inr (List.length_eq_zero_iff.1 h2))] at hM
    subst hM
    (simp -dsimp (disch := first | omega | (simp only [h1, h2, wr_id, LR] <;> omega) | fail) only [push_cast, h1, h2, wr_id, simprocAttr, -Nat.reduceSubDiff]) <;> (repeat (refine (aw_draw (by kernel_rfl)).2 ?_; simp -dsimp (disch := first | omega | (simp only [h1, h2, wr_id, LR] <;> omega) | fail) only [push_cast, h1, h2, wr_id, simprocAttr, -Nat.reduceSubDiff]))
  rw [if_neg (by rintro (h | h); exact h1 h; rw [h] at h2; exact h2 rfl)] at hM
  have hl := hc.1
  have hk : p + 1 - 1 = p := by omega
  have hlp : 0 < (c.length : Int) := by omega
  have nn : ∀ i, 0 ≤ c.getD i 0 ∧ c.getD i 0 ≤ 255 := code_get hc
  by_cases h3 : p < c.length
  · rw [if_pos h3] at hM
    obtain ⟨x, hx⟩ := ex_get (show p.toNat < c.length by omega)
    have hb := nn p.toNat
    rw [List.getD_eq_getElem?_getD, hx, Option.getD_some] at hM hb
    have ht : x.tmod n = x % n := Int.tmod_eq_emod_of_nonneg hb.1
    have hnx : numR x = [.sc (.int .u8 x)] := rfl
    (simp -dsimp (disch := first | omega | (simp only [h1, h2, h3, hx, wr_id, hk, ht, hnx, LR] <;> omega) | fail) only [push_cast, h1, h2, h3, hx, wr_id, hk, ht, hnx, simprocAttr, -Nat.reduceSubDiff]) <;> (repeat (refine (aw_draw (by kernel_rfl)).2 ?_; simp -dsimp (disch := first | omega | (simp only [h1, h2, h3, hx, wr_id, hk, ht, hnx, LR] <;> omega) | fail) only [push_cast, h1, h2, h3, hx, wr_id, hk, ht, hnx, simprocAttr, -Nat.reduceSubDiff]))
    rw [hM]
  rw [if_neg h3] at hM
  have e1 : p.tmod (c.length : Int) = ((p.toNat % c.length : Nat) : Int) := by
    rw [Int.tmod_eq_emod_of_nonneg hp]
    have hp' : p = ((p.toNat : Nat) : Int) := by omega
    conv => lhs; rw [hp']
    rfl
  have e2 : (p * 7 + 3).tmod (c.length : Int) = (((p.toNat * 7 + 3) % c.length : Nat) : Int) := by
    rw [Int.tmod_eq_emod_of_nonneg (by omega), show p * 7 + 3 = ((p.toNat * 7 + 3 : Nat) : Int) by omega]; rfl
  have e3 : p.tdiv (c.length : Int) = p / c.length := Int.tdiv_eq_ediv_of_nonneg hp
  obtain ⟨x, hx⟩ := ex_get (show p.toNat % c.length < c.length from Nat.mod_lt _ (by omega))
  obtain ⟨y, hy⟩ := ex_get (show (p.toNat * 7 + 3) % c.length < c.length from Nat.mod_lt _ (by omega))
  have hbx := nn (p.toNat % c.length)
  have hby := nn ((p.toNat * 7 + 3) % c.length)
  unfold mixK at hM
  rw [List.getD_eq_getElem?_getD, hx, Option.getD_some] at hM hbx
  rw [List.getD_eq_getElem?_getD, hy, Option.getD_some] at hM hby
  have d0 : 0 ≤ p / (c.length : Int) := Int.ediv_nonneg hp (by omega)
  have d1 : p / (c.length : Int) ≤ p := Int.ediv_le_self _ hp
  generalize p / (c.length : Int) = d at *
  generalize p.toNat % c.length = i at *
  generalize (p.toNat * 7 + 3) % c.length = j at *
  obtain ⟨X, hX⟩ : ∃ X, X = x * 131 + y * 1117 + p * 29 + d * 53 := ⟨_, rfl⟩
  have X0 : 0 ≤ X := by omega
  have X1 : X < 4611686018427387904 := by omega
  have hq : X.tdiv 64 = X / 64 := Int.tdiv_eq_ediv_of_nonneg X0
  have hxo : wr .i64 (BitVec.ofInt IntKind.i64.bits X ^^^ BitVec.ofInt IntKind.i64.bits (X / 64)).toNat = xorK X := rfl
  obtain ⟨z0, z1⟩ := xorK_nn X0 X1
  have ht : (xorK X).tmod n = xorK X % n := Int.tmod_eq_emod_of_nonneg z0
  rw [← hX] at hM
  have hnx : numR x = [.sc (.int .u8 x)] := rfl
  have hny : numR y = [.sc (.int .u8 y)] := rfl
  (simp -dsimp (disch := first | omega | (simp only [h1, h2, h3, wr_id, hk, hnx, hny, e1, e2, e3, hx, hy, Int.toNat_natCast, ← hX, hq, hxo, ht, LR] <;> omega) | fail) only [push_cast, h1, h2, h3, wr_id, hk, hnx, hny, e1, e2, e3, hx, hy, Int.toNat_natCast, ← hX, hq, hxo, ht, simprocAttr, -Nat.reduceSubDiff]) <;> (repeat (refine (aw_draw (by kernel_rfl)).2 ?_; simp -dsimp (disch := first | omega | (simp only [h1, h2, h3, wr_id, hk, hnx, hny, e1, e2, e3, hx, hy, Int.toNat_natCast, ← hX, hq, hxo, ht, LR] <;> omega) | fail) only [push_cast, h1, h2, h3, wr_id, hk, hnx, hny, e1, e2, e3, hx, hy, Int.toNat_natCast, ← hX, hq, hxo, ht, simprocAttr, -Nat.reduceSubDiff]))
  rw [hM]
end Go.Proofs.YtkkmgjhfjhcdmaaGreatDoor.Mx

/- Runs whose answer is only known to be of a kind. -/
namespace Go.Proofs.YtkkmgjhfjhcdmaaGreatDoor.Mx
set_option linter.all false
open Go Go.RowKit
/-- there is an answer of the kind, for which this holds -/
def Sm (Q K : Ans → Prop) : Prop := ∃ r, Q r ∧ K r
theorem Sm.imp {Q K K' : Ans → Prop} (h : ∀ r, K r → K' r) : Sm Q K → Sm Q K' := fun ⟨r, a, b⟩ => ⟨r, a, h r b⟩
theorem ex_call {P : Program} {h : FuncId} {Q : Ans → Prop} {F : Ans → Ans → Prop} {l : List AV} {r' : Ans} (hm : Does P h l r') (hf : Sm Q fun r => F r r') : Sm Q fun r => AfterC P h (fun a => F r a) (some l) :=
  hf.imp fun _ k => ⟨l, r', rfl, hm.m, k⟩
theorem ex_some {P : Program} {h : FuncId} {Q Q' : Ans → Prop} {F : Ans → Ans → Prop} {l : List AV} (hm : ∃ r', Q' r' ∧ Does P h l r') (hf : ∀ r', Q' r' → Sm Q fun r => F r r') : Sm Q fun r => AfterC P h (fun a => F r a) (some l) := by
  obtain ⟨r', hq, hd⟩ := hm
  exact ex_call hd (hf r' hq)
/-- a callee whose answer is only known to be of a kind -/
theorem some_call {P : Program} {h : FuncId} {Q' : Ans → Prop} {f : Ans → Prop} {l : List AV} (hm : ∃ r', Q' r' ∧ Does P h l r') (hf : ∀ r', Q' r' → f r') : AfterC P h f (some l) := by
  obtain ⟨r', hq, hd⟩ := hm
  exact callC hd (hf r' hq)
section
variable {P : Program} {E : Env}
theorem ex_loop {Qa : Ans → Prop} {Q : Ans → Po} {s : St} {c : Code} {α : Type} (I : α → Prop) (st : α → St) (μ : α → Nat) (x0 : α) (hx : I x0) (h0 : norm (E.kp (headId c)) s = st x0)
    (step : ∀ x, I x → (∀ y s, μ y < μ x → I y → norm (E.kp (headId c)) s = st y → Sm Qa fun r => aw P E (.loop c) (Q r) s) → Sm Qa fun r => aw P E c (Po.then (aw P E (.loop c) (Q r)) (Q r)) (st x)) : Sm Qa fun r => aw P E (.loop c) (Q r) s := by
  have key : ∀ n x s, μ x = n → I x → norm (E.kp (headId c)) s = st x → Sm Qa fun r => aw P E (.loop c) (Q r) s := by
    intro n
    induction n using Nat.strongRecOn with
    | _ n ih =>
      intro x s hn hI hs
      refine (step x hI fun y s hlt hIy hsy => ih (μ y) (hn ▸ hlt) y s rfl hIy hsy).imp fun r k => ?_
      rw [aw_loop, hs]; exact k
  exact key _ x0 s rfl hx h0
theorem does_ex (hT : TOk P E.T) (hm : P.follows .mixedOrders = true) {f : FuncId} {fn : Func} {c : Code} {rs : List ResultVar} {lent : List Bool} {avs : List AV} {Q : Ans → Prop} (hf : P.funcs[f]? = some fn) (hb : fn.body = some c) (hn : (fn.name == "runtime.NumGoroutine") = false)
    (hr : fn.results = rs.toArray) (hd : dstOk lent.length fn.ntmps c = true) (hN : avs.length ≤ fn.ntmps) (hl : lent.length ≤ avs.length) (h : Sm Q fun r => aw P E c (Fin E.T rs lent r) (enter avs)) : ∃ r, Q r ∧ Does P f avs r := by
  obtain ⟨r, hq, k⟩ := h
  exact ⟨r, hq, does_of hT hm hf hb hn hr hd hN hl k⟩
theorem ex_draw {Qa : Ans → Prop} {id : Nat} {all : Array Oper} {Q : Ans → Po} {s : St} (h : okD all.toList (E.dp id) = true) (k : Sm Qa fun r => drW P E id (E.dp id) all.toList (Q r .normal) 0 all.toList [] (keep (E.kp id) (frz (E.fz id) s))) : Sm Qa fun r => aw P E (.region id all true) (Q r) s :=
  k.imp fun _ k => (aw_draw h).2 k
end
theorem ex_fin {Q : Ans → Prop} {a : Ans} (h : Q a) : Sm Q fun r => some a = some r := ⟨a, h, rfl⟩
end Go.Proofs.YtkkmgjhfjhcdmaaGreatDoor.Mx

/- Fetches: what they mean. -/
namespace Go.Proofs.YtkkmgjhfjhcdmaaGreatDoor.Mx
set_option linter.all false
open Go Go.RowKit
def emF : Fetch := ⟨em, 0, false, emS, []⟩
end Go.Proofs.YtkkmgjhfjhcdmaaGreatDoor.Mx

/- Sets that differ: what is there, notes. -/
namespace Go.Proofs.YtkkmgjhfjhcdmaaGreatDoor.Mx
set_option linter.all false
open Go Go.RowKit
def jb (l : List Str) : List UInt8 := l.flatMap bt
theorem jb_app (a b : List Str) : jb (a ++ b) = jb a ++ jb b := List.flatMap_append ..
theorem jb_one (x : Str) : jb [x] = bt x := by simp [jb]
/-! a map that holds texts -/
def mset (l : List Str) : List (Value × Value) := l.foldl (fun es x => kset es (.string x) (.bool true)) []
theorem kget_kset (es : List (Value × Value)) (x y : Str) (u : Value) : kget (kset es (.string x) u) (.string y) = if x = y then some u else kget es (.string y) := by
  induction es with
  | nil => by_cases h : x = y <;> simp [kset, kget, keq, eqs, h, eq_comm]
  | cons e r ih =>
    obtain ⟨k, v⟩ := e
    rw [kset, kget]
    cases hk : keq k (.string x) with
    | true =>
      rw [cond_true, kget]
      cases k <;> simp only [keq] at hk <;> try (cases hk; done)
      rename_i a
      have : x = a := by simpa [eqs] using hk
      subst this
      by_cases h : x = y
      · subst h; simp [keq, eqs]
      · have h3 : ¬ y = x := fun e => h e.symm
        simp [keq, eqs, h, h3]
    | false =>
      rw [cond_false, kget, ih]
      by_cases h : x = y
      · subst h
        rw [hk]; simp
      · simp [h]
theorem mset_get (l : List Str) (y : Str) : kget (mset l) (.string y) = if inL l y = true then some (.bool true) else none := by
  unfold mset
  have : ∀ (l : List Str) (es : List (Value × Value)), kget (l.foldl (fun es x => kset es (.string x) (.bool true)) es) (.string y) = if inL l y = true then some (.bool true) else kget es (.string y) := fun l => by
    induction l with
    | nil => intro es; simp [inL]
    | cons a r ih =>
      intro es
      rw [List.foldl_cons, ih, kget_kset]
      by_cases h1 : inL r y = true
      · have : inL (a :: r) y = true := by unfold inL at h1 ⊢; rw [List.any_cons, h1]; simp
        rw [if_pos h1, if_pos this]
      · rw [if_neg h1]
        by_cases h2 : a = y
        · have : inL (a :: r) y = true := by unfold inL; rw [List.any_cons]; simp [h2]
          rw [if_pos h2, if_pos this]
        · have : ¬ inL (a :: r) y = true := by unfold inL at h1 ⊢; rw [List.any_cons]; simp [h2]; simpa using h1
          rw [if_neg h2, if_neg this]
  rw [this]; rfl
def mok (es : List (Value × Value)) : Bool := es.all fun e => (match e.1 with | .string _ => true | _ => false) && (match e.2 with | .bool _ => true | _ => false)
theorem mok_kset {es : List (Value × Value)} (h : mok es = true) (x : Str) (b : Bool) : mok (kset es (.string x) (.bool b)) = true := by
  induction es with
  | nil => rfl
  | cons e r ih =>
    obtain ⟨k, v⟩ := e
    unfold mok at h ih ⊢
    rw [List.all_cons, Bool.and_eq_true] at h
    rw [kset]
    cases hk : keq k (.string x) with
    | true => rw [cond_true, List.all_cons, h.2]; simp at h ⊢; exact h.1.1
    | false => rw [cond_false, List.all_cons, ih h.2, h.1]; rfl
theorem mset_mok (l : List Str) : mok (mset l) = true := by
  unfold mset
  have : ∀ (l : List Str) (es : List (Value × Value)), mok es = true → mok (l.foldl (fun es x => kset es (.string x) (.bool true)) es) = true := fun l => by
    induction l with
    | nil => intro es h; exact h
    | cons a r ih => intro es h; exact ih _ (mok_kset h a true)
  exact this l [] rfl
theorem mok_kok {es : List (Value × Value)} (h : mok es = true) : kok .str es = true ∧ es.all (fun e => plain e.2) = true := by
  unfold mok at h
  unfold kok
  rw [List.all_eq_true] at h ⊢
  rw [List.all_eq_true]
  constructor
  · intro e he
    have := h e he
    obtain ⟨k, v⟩ := e
    cases k <;> simp at this ⊢
    simp [kkey]
  · intro e he
    have := h e he
    obtain ⟨k, v⟩ := e
    cases v <;> simp at this ⊢
    simp [plain]
end Go.Proofs.YtkkmgjhfjhcdmaaGreatDoor.Mx

/- What a store lacks of a list: pure. -/
namespace Go.Proofs.YtkkmgjhfjhcdmaaGreatDoor.Mx
set_option linter.all false
open Go Go.RowKit
/-- where a sum's text lies in a store -/
def atI (w : Int) (n : Str) : List Item → Int
  | [] => -1
  | x :: r => if sumS x.t w = n then 0 else if atI w n r < 0 then -1 else atI w n r + 1
theorem at_some {w : Int} {n : Str} : ∀ {I : List Item} {i : Nat} {x : Item}, (∀ j y, j < i → I[j]? = some y → sumS y.t w ≠ n) → I[i]? = some x → sumS x.t w = n → atI w n I = i
  | [], i, x, _, h, _ => by simp at h
  | y :: r, 0, x, _, h, e => by
    cases h
    rw [atI, if_pos e]; rfl
  | y :: r, i + 1, x, hn, h, e => by
    have h1 := hn 0 y (by omega) rfl
    have ih := at_some (I := r) (i := i) (fun j z hj hz => hn (j + 1) z (by omega) hz) h e
    rw [atI, if_neg h1, ih, if_neg (by omega)]; omega
theorem at_none {w : Int} {n : Str} : ∀ {I : List Item}, (∀ y ∈ I, sumS y.t w ≠ n) → atI w n I = -1
  | [], _ => rfl
  | y :: r, hn => by
    rw [atI, if_neg (hn y (by simp)), at_none (I := r) (fun z hz => hn z (by simp [hz])), if_pos (by omega)]
theorem at_get {w : Int} {n : Str} : ∀ {I : List Item}, 0 ≤ atI w n I → ∃ (i : Nat) (x : Item), atI w n I = i ∧ I[i]? = some x ∧ sumS x.t w = n
  | [], h => by rw [atI] at h; omega
  | y :: r, h => by
    rw [atI] at h ⊢
    by_cases e : sumS y.t w = n
    · rw [if_pos e]; exact ⟨0, y, rfl, rfl, e⟩
    · rw [if_neg e] at h ⊢
      by_cases h2 : atI w n r < 0
      · rw [if_pos h2] at h; omega
      · obtain ⟨i, x, h3, h4, h5⟩ := at_get (w := w) (n := n) (I := r) (by omega)
        rw [if_neg h2, h3]
        exact ⟨i + 1, x, by omega, h4, h5⟩
theorem at_ge {w : Int} {n : Str} : ∀ {I : List Item}, -1 ≤ atI w n I
  | [] => by rw [atI]; omega
  | y :: r => by
    rw [atI]
    split
    · omega
    · split <;> omega
theorem at_neg {w : Int} {n : Str} {I : List Item} : atI w n I < 0 ↔ inL (I.map fun x => sumS x.t w) n = false := by
  constructor
  · intro h
    cases hb : inL (I.map fun x => sumS x.t w) n with
    | false => rfl
    | true =>
      obtain ⟨x, hx, e⟩ := List.mem_map.1 ((inL_iff _ _).1 hb)
      exfalso
      have : ∀ (I : List Item), x ∈ I → 0 ≤ atI w n I := fun I => by
        induction I with
        | nil => intro h; cases h
        | cons y r ih =>
          intro h
          rw [atI]
          by_cases e2 : sumS y.t w = n
          · rw [if_pos e2]; omega
          · rw [if_neg e2]
            rcases List.mem_cons.1 h with rfl | h
            · exact (e2 e).elim
            · have := ih h
              rw [if_neg (by omega)]; omega
      have := this I hx
      omega
  · intro h
    apply Classical.byContradiction
    intro hc
    obtain ⟨i, x, _, h1, h2⟩ := at_get (w := w) (n := n) (I := I) (by omega)
    have : inL (I.map fun x => sumS x.t w) n = true := (inL_iff _ _).2 (List.mem_map.2 ⟨x, List.mem_of_getElem? h1, h2⟩)
    rw [this] at h; cases h
/-- the list of a name -/
noncomputable def listF (s : Store) (n : Str) : Lst × Bool := if atI s.w n s.I < 0 then (⟨0, []⟩, false) else match s.I[(atI s.w n s.I).toNat]? with
  | some x => readL x.t s.w
  | none => (⟨0, []⟩, false)
def lackL (w : Int) (I : List Item) : List Str → List Str → List Str
  | acc, [] => acc
  | acc, x :: r => lackL w I (if atI w x I < 0 ∧ inL acc x = false then acc ++ [x] else acc) r
noncomputable def lacksF (s : Store) (n : Str) : List Str := if validSt s = false ∨ (n.size : Int) ≠ s.w then [] else if (listF s n).2 = false then [n] else lackL s.w s.I [] (listF s n).1.S
theorem lackL_len (w : Int) (I : List Item) : ∀ (L acc : List Str), (lackL w I acc L).length ≤ acc.length + L.length
  | [], acc => Nat.le_refl _
  | x :: r, acc => by
    rw [lackL]
    have := lackL_len w I r (if atI w x I < 0 ∧ inL acc x = false then acc ++ [x] else acc)
    split at this
    · rw [List.length_append] at this
      rw [if_pos (by assumption)]
      simp only [List.length_cons, List.length_nil] at this ⊢; omega
    · rw [if_neg (by assumption)]
      rw [List.length_cons]; omega
theorem list_ok {s : Store} {n : Str} : (listF s n).1.S.length ≤ 375 ∧ ∀ x ∈ (listF s n).1.S, x.size ≤ 8 := by
  unfold listF
  split
  · simp
  · split
    · rename_i x _
      cases h : (readL x.t s.w).2 with
      | false => rw [read_fst h]; simp
      | true =>
        obtain ⟨_, w8, _, _, hn, hs⟩ := okLs_up (read_ok h).1
        exact ⟨hn, fun y hy => by have := hs y hy; omega⟩
    · simp
theorem mset_app (l : List Str) (x : Str) : mset (l ++ [x]) = kset (mset l) (.string x) (.bool true) := by
  unfold mset; rw [List.foldl_append]; rfl
theorem inL_app (l m : List Str) (x : Str) : inL (l ++ m) x = (inL l x || inL m x) := by unfold inL; rw [List.any_append]
end Go.Proofs.YtkkmgjhfjhcdmaaGreatDoor.Mx

/- Things built of pieces, loaded from stores: pure. -/
namespace Go.Proofs.YtkkmgjhfjhcdmaaGreatDoor.Mx
set_option linter.all false
open Go Go.RowKit
/-- pieces held against sums, from a size on -/
def bldB (w : Int) : Nat → List Str → List Str → Bool
  | _, [], [] => true
  | n, p :: r, s :: q => decide (n + p.size ≤ 3000) && decide (sumS p w = s) && bldB w (n + p.size) r q
  | _, _, _ => false
def buildF (l : Lst) (ps : List Str) (w : Int) : Str × Bool :=
  if okLs l w = true ∧ ps.length = l.S.length ∧ bldB w 0 ps l.S = true ∧ ((jb ps).length : Int) = l.sz ∧ (descL (stB (jb ps)) w).1 = l then (stB (jb ps), true) else (em, false)
theorem build_no {l : Lst} {ps : List Str} {w : Int} (h : okLs l w = false ∨ ps.length ≠ l.S.length ∨ bldB w 0 ps l.S = false ∨ ((jb ps).length : Int) ≠ l.sz ∨ (descL (stB (jb ps)) w).1 ≠ l) : buildF l ps w = (em, false) := by
  unfold buildF
  rw [if_neg]
  rintro ⟨a, b, c, d, e⟩
  rcases h with h | h | h | h | h
  · rw [a] at h; cases h
  · exact h b
  · rw [c] at h; cases h
  · exact h d
  · exact h e
theorem jb_take {l : List Str} {i : Nat} {x : Str} (h : l[i]? = some x) : (jb (l.take (i + 1))).length = (jb (l.take i)).length + x.size := by
  rw [take_step h, jb_app, jb_one, List.length_append, bt_len]
theorem build_len {l : Lst} {ps : List Str} {w : Int} : (buildF l ps w).1.size ≤ 3000 := by
  unfold buildF
  split
  · rename_i h
    obtain ⟨_, _, _, s3, _, _⟩ := okLs_up h.1
    rw [stB_size]; omega
  · exact Nat.zero_le _
/-- the text with a sum -/
def textAt (s : Store) (x : Str) : Str := match s.I[(atI s.w x s.I).toNat]? with | some y => y.t | none => em
noncomputable def loadF0 (s : Store) (n : Str) : Str × Bool :=
  if (listF s n).2 = true ∧ ((listF s n).1.S.all fun x => decide (0 ≤ atI s.w x s.I)) = true then buildF (listF s n).1 ((listF s n).1.S.map (textAt s)) s.w else (em, false)
noncomputable def loadF (s : Store) (n : Str) : Str × Bool := if validSt s = false then (em, false) else loadF0 s n
theorem textAt_some {s : Store} {x : Str} {y : Item} {i : Nat} (h : atI s.w x s.I = i) (hy : s.I[i]? = some y) : textAt s x = y.t := by
  unfold textAt; rw [h, Int.toNat_natCast, hy]
theorem textAt_sz {s : Store} (hs : okStore s) (x : Str) : (textAt s x).size ≤ 2097152 := by
  unfold textAt
  split
  · rename_i y h; exact hs.1.2 y (List.mem_of_getElem? h)
  · exact Nat.zero_le _
theorem load_len {s : Store} {n : Str} : (loadF s n).1.size ≤ 3000 := by
  unfold loadF loadF0
  split
  · exact Nat.zero_le _
  · split
    · exact build_len
    · exact Nat.zero_le _
end Go.Proofs.YtkkmgjhfjhcdmaaGreatDoor.Mx

/- sort.SearchStrings. -/
namespace Go.Proofs.YtkkmgjhfjhcdmaaGreatDoor.Mx
set_option linter.all false
open Go Go.RowKit Go.Proofs
theorem lts_def (a b : Str) : lts a b = decide (a.data.toList < b.data.toList) := bytesLess_eq _ _
/-- what is less stands first -/
def parts (l : List Str) (s : Str) : Prop := ∀ a b : Nat, a ≤ b → ∀ x y, l[a]? = some x → l[b]? = some y → lts y s = true → lts x s = true
theorem countP_rk {s : Str} : ∀ {l : List Str}, parts l s → l.countP (fun y => lts y s) = rk l s
  | [], _ => rfl
  | a :: r, h => by
    rw [List.countP_cons, rk]
    have ht : parts r s := fun i j hij x y hx hy => h (i + 1) (j + 1) (by omega) x y hx hy
    cases ha : lts a s with
    | true => rw [countP_rk ht]; simp
    | false =>
      have : r.countP (fun y => lts y s) = 0 := by
        rw [List.countP_eq_zero]
        intro y hy
        obtain ⟨j, hj⟩ := List.mem_iff_getElem?.1 hy
        intro hc
        have := h 0 (j + 1) (by omega) a y rfl hj hc
        rw [ha] at this; cases this
      rw [this]; simp
theorem searchStrings (l : List Str) (s : Str) (hl : l.length ≤ 2097152) (hp : parts l s) : Does Tryz.prog 120 [.sl false 1 (l.map strR), .sc (.string s)] (.sc (.int .i64 (rk l s)), []) := by
  refine does_pure Tryz.func120 rfl rfl rfl fun w ok G args hA => ?_
  obtain ⟨u, v, rfl, h0, h1⟩ := args2 hA
  obtain rfl := rep_str (own_rep h1 (by intro z r h; cases h) (by intro cs h; cases h))
  rcases rep_strs (own_rep h0 (by intro z r h; cases h) (by intro cs h; cases h)) with ⟨rfl, A, c, rfl⟩ | ⟨b, off, cap, rfl, hc, hb, hcell⟩
  · exact Any.sort_SearchStrings_none Tryz.searchStrings A c s w
  · have e2 : ∀ i x, l[i]? = some x → (l.toArray)[i]! = x := fun i x hx => by
      have hi := idx_lt hx
      rw [getElem!_pos l.toArray i (by simpa using hi)]
      rw [List.getElem?_eq_getElem hi] at hx
      simpa using hx
    have z := Any.sort_SearchStrings Tryz.searchStrings b off cap l.toArray s w (fun i hi => by
        obtain ⟨x, hx⟩ := ex_get (by simpa using hi : i < l.length)
        rw [e2 i x hx]; exact hcell i x hx) (hA.inn b hb) (by simp; omega) (fun i j hij hj => by
        obtain ⟨y, hy⟩ := ex_get (by simpa using hj : j < l.length)
        obtain ⟨x, hx⟩ := ex_get (show i < l.length by have := idx_lt hy; omega)
        rw [e2 i x hx, e2 j y hy, ← lts_def, ← lts_def]
        intro q
        cases z : lts y s with
        | false => rfl
        | true => rw [hp i j hij x y hx hy z] at q; exact q)
    simp only [List.size_toArray] at z
    refine z.mono fun e w' hh => ⟨?_, hh.2⟩
    rw [hh.1, ← countP_rk hp]
    congr 4
    funext y
    rw [lts_def]; simp
end Go.Proofs.YtkkmgjhfjhcdmaaGreatDoor.Mx

/- Pins. -/
namespace Go.Proofs.YtkkmgjhfjhcdmaaGreatDoor.Mx
set_option linter.all false
open Go Go.RowKit Go.Proofs
set_option linter.unusedSimpArgs false
theorem lts_trans {a b c : Str} (h1 : lts a b = true) (h2 : lts b c = true) : lts a c = true := by
  rw [lts_def] at *
  exact decide_eq_true (List.lt_trans (of_decide_eq_true h1) (of_decide_eq_true h2))
theorem asc_get {w : Int} : ∀ {p : Option Str} {l : List Str} {i : Nat} {x : Str}, ascF w p l = true → l[i]? = some x → (x.size : Int) = w ∧ ∀ q, p = some q → lts q x = true
  | _, [], i, x, _, h => by simp at h
  | p, a :: r, 0, x, h, hx => by
    rw [ascF, Bool.and_eq_true, Bool.and_eq_true, decide_eq_true_eq] at h
    simp only [List.getElem?_cons_zero, Option.some.injEq] at hx
    subst hx
    exact ⟨h.1.1, fun q hq => by rw [hq] at h; exact h.1.2⟩
  | p, a :: r, i + 1, x, h, hx => by
    rw [ascF, Bool.and_eq_true, Bool.and_eq_true, decide_eq_true_eq] at h
    have := asc_get h.2 (by simpa using hx)
    exact ⟨this.1, fun q hq => by rw [hq] at h; exact lts_trans h.1.2 (this.2 a rfl)⟩
theorem asc_lt {w : Int} : ∀ {p : Option Str} {l : List Str} {i j : Nat} {x y : Str}, ascF w p l = true → i < j → l[i]? = some x → l[j]? = some y → lts x y = true
  | _, [], i, j, x, y, _, _, h, _ => by simp at h
  | p, a :: r, 0, j + 1, x, y, h, _, hx, hy => by
    rw [ascF, Bool.and_eq_true, Bool.and_eq_true, decide_eq_true_eq] at h
    simp only [List.getElem?_cons_zero, Option.some.injEq] at hx
    subst hx
    exact (asc_get h.2 (by simpa using hy)).2 a rfl
  | p, a :: r, i + 1, j + 1, x, y, h, hij, hx, hy => by
    rw [ascF, Bool.and_eq_true, Bool.and_eq_true, decide_eq_true_eq] at h
    exact asc_lt h.2 (by omega : i < j) (by simpa using hx) (by simpa using hy)
theorem asc_parts {w : Int} {p : Option Str} {l : List Str} (h : ascF w p l = true) (s : Str) : parts l s := fun a b hab x y hx hy hl => by
  rcases Nat.lt_or_eq_of_le hab with hlt | rfl
  · exact lts_trans (asc_lt h hlt hx hy) hl
  · rw [hx] at hy; cases hy; exact hl
theorem validSt_asc {s : Store} (h : validSt s = true) : ascF s.w none s.P = true ∧ s.P.length ≤ 10 := by
  unfold validSt at h
  simp only [Bool.and_eq_true, decide_eq_true_eq] at h
  exact ⟨h.1.1.2, h.1.1.1.2⟩
def E77 : Env := { T := T0, kp := look [(0, [0, 1]), (1, [1, 2]), (2, [1, 2, 6])], dp := look2 [(2, [[], [], [], [2], [2, 3], [1, 2, 3, 4], [1, 2, 3, 4, 5], [1, 2, 3, 4, 5, 6], [1, 2, 3, 4, 5, 6, 7], [1, 2, 3, 4, 5, 6], [1, 2, 3, 4, 5, 6, 7, 8, 9], [1, 2, 3, 4, 5, 6, 7, 8, 9, 10], [1, 2, 3, 4, 5, 6], [1, 2, 3, 4, 5, 6, 7, 8, 9, 10, 11, 12], [1, 2, 3, 4, 5, 6, 7, 8, 9, 10, 11, 12, 13], [0, 1, 2, 3, 4, 5, 6], [0, 1, 2, 3, 4, 5, 6, 7, 8, 9, 10, 11, 12, 13, 14, 15]])] }
attribute [local push_cast] E77
theorem pinned (s : Store) (n : Str) (hs : okStore s) (hp : parts s.P n) : Does Tryz.prog 77 [.ag (storeC false s), .sc (.string n)] (.tu [.sc (.int .i64 (rk s.P n)), .sc (.bool (hasS s.P n))], []) := by
  refine does_of (E := E77) (rs := [.tmp 4, .tmp 5]) (lent := []) tOk rfl Tryz.func77 rfl (by decide) rfl rfl (Nat.le_of_ble_eq_true rfl) (Nat.le_of_ble_eq_true rfl) ?_
  have hr := rk_le s.P n
  have hl := hs.2.1
  (simp -dsimp (disch := first | omega | (simp only [LR] <;> omega) | fail) only [push_cast, simprocAttr, -Nat.reduceSubDiff]) <;> (repeat (refine (aw_draw (by kernel_rfl)).2 ?_; simp -dsimp (disch := first | omega | (simp only [LR] <;> omega) | fail) only [push_cast, simprocAttr, -Nat.reduceSubDiff]))
  refine callC (searchStrings s.P n hl hp) ?_
  by_cases h : rk s.P n < s.P.length
  · obtain ⟨x, hx⟩ := ex_get h
    by_cases e : x = n
    · have hh : hasS s.P n = true := by unfold hasS; rw [hx, e]; simp
      (simp -dsimp (disch := first | omega | (simp only [hx, e, hh, LR] <;> omega) | fail) only [push_cast, hx, e, hh, simprocAttr, -Nat.reduceSubDiff]) <;> (repeat (refine (aw_draw (by kernel_rfl)).2 ?_; simp -dsimp (disch := first | omega | (simp only [hx, e, hh, LR] <;> omega) | fail) only [push_cast, hx, e, hh, simprocAttr, -Nat.reduceSubDiff]))
    · have hh : hasS s.P n = false := by unfold hasS; rw [hx]; simp [e]
      (simp -dsimp (disch := first | omega | (simp only [hx, e, hh, LR] <;> omega) | fail) only [push_cast, hx, e, hh, simprocAttr, -Nat.reduceSubDiff]) <;> (repeat (refine (aw_draw (by kernel_rfl)).2 ?_; simp -dsimp (disch := first | omega | (simp only [hx, e, hh, LR] <;> omega) | fail) only [push_cast, hx, e, hh, simprocAttr, -Nat.reduceSubDiff]))
  · have hh : hasS s.P n = false := by unfold hasS; rw [List.getElem?_eq_none (by omega)]; simp
    (simp -dsimp (disch := first | omega | (simp only [hh, LR] <;> omega) | fail) only [push_cast, hh, simprocAttr, -Nat.reduceSubDiff]) <;> (repeat (refine (aw_draw (by kernel_rfl)).2 ?_; simp -dsimp (disch := first | omega | (simp only [hh, LR] <;> omega) | fail) only [push_cast, hh, simprocAttr, -Nat.reduceSubDiff]))
end Go.Proofs.YtkkmgjhfjhcdmaaGreatDoor.Mx

/- Pin, of the program and of the reference. -/
namespace Go.Proofs.YtkkmgjhfjhcdmaaGreatDoor.Mx
set_option linter.all false
open Go Go.RowKit Go.Proofs
set_option linter.unusedSimpArgs false
theorem addS_len (l : List Str) (n : Str) : (addS l n).length ≤ l.length + 1 ∧ (hasS l n = false → (addS l n).length = l.length + 1) := by
  have := rk_le l n
  unfold addS
  cases hasS l n with
  | true => simp
  | false => simp; omega
end Go.Proofs.YtkkmgjhfjhcdmaaGreatDoor.Mx

/- NewFetch, of the program and of the reference. -/
namespace Go.Proofs.YtkkmgjhfjhcdmaaGreatDoor.Mx
set_option linter.all false
open Go Go.RowKit Go.Proofs
set_option linter.unusedSimpArgs false
theorem pinS_ok {s : Store} {n : Str} (hs : okStore s) (hn : okStr n) : okStore (pinS s n).1 := by
  unfold pinS
  split
  · exact ⟨⟨by simp [emS], by simp [emS]⟩, ⟨by simp [emS], by simp [emS]⟩⟩
  · rename_i hv
    split
    · exact hs
    · split
      · exact ⟨⟨by simp [emS], by simp [emS]⟩, ⟨by simp [emS], by simp [emS]⟩⟩
      · have hv : validSt s = true := by cases h : validSt s <;> simp_all
        obtain ⟨_, h10⟩ := validSt_asc hv
        have := addS_len s.P n
        refine ⟨hs.1, ⟨by simp only []; omega, fun a ha => ?_⟩⟩
        simp only [] at ha
        unfold addS at ha
        cases hh : hasS s.P n with
        | true => rw [hh] at ha; exact hs.2.2 a ha
        | false =>
          rw [hh, cond_false, List.mem_append, List.mem_cons] at ha
          rcases ha with ha | rfl | ha
          · exact hs.2.2 a (List.mem_of_mem_take ha)
          · exact hn
          · exact hs.2.2 a (List.mem_of_mem_drop ha)
def newRow : Row := [.sc (.int .i64 0), .sc (.int .i64 0), .sc (.int .i64 (-1)), .sc (.string ⟨#[]⟩), .sl true 1 []]
end Go.Proofs.YtkkmgjhfjhcdmaaGreatDoor.Mx

/- Fetches and worlds: valid. -/
namespace Go.Proofs.YtkkmgjhfjhcdmaaGreatDoor.Mx
set_option linter.all false
open Go Go.RowKit
def askB (w wait : Int) (ask : Str) : Bool := bif decide (0 < wait) then decide ((ask.size : Int) = w) else bif decide (wait = 0) then decide (ask = em) else true
def peerB (w now : Int) (p : Peer) : Bool := inB p.lies 0 3 && inB p.wait 0 5 && inB p.last (-1) now && decide (p.N.length ≤ 376) && askB w p.wait p.ask && ascF w none p.N
def validF (f : Fetch) : Bool := validSt f.st && inL f.st.P f.nm && inB f.now 0 1000000 && inB f.Q.length 1 5 && f.Q.all (peerB f.st.w f.now)
theorem all_drop {α : Type} {p : α → Bool} {l : List α} {i : Nat} {x : α} (h : l[i]? = some x) : (l.drop i).all p = (p x && (l.drop (i + 1)).all p) := by rw [drop_step h, List.all_cons]
end Go.Proofs.YtkkmgjhfjhcdmaaGreatDoor.Mx

/- Fetches: valid. -/
namespace Go.Proofs.YtkkmgjhfjhcdmaaGreatDoor.Mx
set_option linter.all false
open Go Go.RowKit Go.Proofs
set_option linter.unusedSimpArgs false
def E63 : Env := { T := T0, kp := look [(0, [0]), (1, [0])] }
attribute [local push_cast] E63
theorem timeOk (n : Int) : Does Tryz.prog 63 [.sc (.int .i64 n)] (.sc (.bool (inB n 0 1000000)), []) := by
  refine does_of (E := E63) (rs := [.tmp 2]) (lent := []) tOk rfl Tryz.func63 rfl (by decide) rfl rfl (Nat.le_of_ble_eq_true rfl) (Nat.le_of_ble_eq_true rfl) ?_
  by_cases h : 0 ≤ n <;> by_cases h2 : n ≤ 1000000 <;> first | (exfalso; omega) | (simp -dsimp (disch := first | omega | (simp only [h, h2, inB, LR] <;> omega) | fail) only [push_cast, h, h2, inB, simprocAttr, -Nat.reduceSubDiff])
theorem lts_irrefl (a : Str) : lts a a = false := by
  rw [lts_def]
  exact decide_eq_false (List.lt_irrefl _)
theorem hasS_inL {w : Int} {l : List Str} (h : ascF w none l = true) (s : Str) : hasS l s = inL l s := by
  cases hi : inL l s with
  | true =>
    rw [inL_iff] at hi
    obtain ⟨j, hj⟩ := List.mem_iff_getElem?.1 hi
    have h1 : ¬ j < rk l s := fun hlt => by
      obtain ⟨y, hy, hy2⟩ := rk_all hlt
      rw [hj] at hy; cases hy
      rw [lts_irrefl] at hy2; cases hy2
    have h2 : ¬ rk l s < j := fun hlt => by
      obtain ⟨y, hy⟩ := ex_get (show rk l s < l.length by have := idx_lt hj; omega)
      have := asc_lt h hlt hy hj
      rw [rk_stop hy] at this; cases this
    have : rk l s = j := by omega
    unfold hasS
    rw [this, hj]; simp
  | false =>
    cases hh : hasS l s with
    | false => rfl
    | true =>
      unfold hasS at hh
      have := List.mem_of_getElem? (of_decide_eq_true hh)
      rw [← inL_iff, hi] at this; cases this
def E49 : Env := { T := T0, kp := look [(0, [0]), (1, [1]), (2, []), (3, [1]), (4, [1, 3]), (5, [1, 3]), (6, [1, 3]), (7, [1, 3, 4]), (8, []), (9, [1, 3, 4]), (10, []), (11, [1, 3, 4]), (12, [1, 3, 4, 5]), (13, [1, 3, 4, 5]), (14, [1, 3, 4, 5]), (15, []), (16, [])], dp := look2 [(14, [[], [0], [], [0, 1, 2], [0, 1, 2, 3], [0, 1, 2, 3, 4], [], [6], [6, 7], [0, 1, 2, 3, 4, 5, 6, 7, 8], [0, 1, 2, 3, 4, 5, 6, 7, 8, 9], [0, 1, 2, 3, 4, 5, 6, 7, 8, 9, 10], [0, 1, 2, 3, 4, 5, 6, 7, 8, 9, 10, 11], [0, 1, 2, 3, 4, 5, 6, 7, 8, 9, 10, 11, 12], [0, 1, 2, 3, 4, 5, 6, 7, 8, 9, 10, 11, 12, 13], [0, 1, 2, 3, 4, 5, 6, 7, 8, 9, 10, 11, 12, 13, 14], [0, 1, 2, 3, 4, 5, 6, 7, 8, 9, 10, 11, 12, 13], [0, 1, 2, 3, 4, 5, 6, 7, 8, 9, 10, 11, 12, 13, 16], [0, 1, 2, 3, 4, 5, 6, 7, 8, 9, 10, 11, 12, 13, 14, 15, 16, 17], [0, 1, 2, 3, 4, 5, 6, 7, 8, 9, 10, 11, 12, 13, 14, 15, 16, 17, 18], [0, 1, 2, 3, 4, 5, 6, 7, 8, 9, 10, 11, 12, 13], [0, 1, 2, 3, 4, 5, 6, 7, 8, 9, 10, 11, 12, 13, 20], [0, 1, 2, 3, 4, 5, 6, 7, 8, 9, 10, 11, 12, 13], [0, 1, 2, 3, 4, 5, 6, 7, 8, 9, 10, 11, 12, 13, 20, 21, 22], [0, 1, 2, 3, 4, 5, 6, 7, 8, 9, 10, 11, 12, 13, 20, 21, 22, 23], [0, 1, 2, 3, 4, 5, 6, 7, 8, 9, 10, 11, 12, 13, 14, 15, 16, 17, 18, 19, 20, 21, 22, 23, 24], [0, 1, 2, 3, 4, 5, 6, 7, 8, 9, 10, 11, 12, 13, 14, 15, 16, 17, 18, 19, 20, 21, 22, 23, 24, 25], [0, 1, 2, 3, 4, 5, 6, 7, 8, 9, 10, 11, 12, 13, 14, 15, 16, 17, 18, 19, 20, 21, 22, 23, 24, 25, 26]])] }
attribute [local push_cast] E49
set_option maxRecDepth 20000 in
set_option maxHeartbeats 4000000 in
theorem specValidFetch (f : Fetch) (hf : okFetch f) : Does Tryz.prog 49 [.ag (fetchC false f)] (.sc (.bool (validF f)), []) := by
  refine does_of (E := E49) (rs := [.tmp 2]) (lent := []) tOk rfl Tryz.func49 rfl (by decide) rfl rfl (Nat.le_of_ble_eq_true rfl) (Nat.le_of_ble_eq_true rfl) ?_
  have hl := hf.2.2.1
  have hp := hf.2.1.2.1
  obtain ⟨M, hM⟩ : ∃ M, M = validF f := ⟨_, rfl⟩
  rw [← hM]
  unfold validF at hM
  (simp -dsimp (disch := first | omega | (simp only [LR] <;> omega) | fail) only [push_cast, simprocAttr, -Nat.reduceSubDiff]) <;> (repeat (refine (aw_draw (by kernel_rfl)).2 ?_; simp -dsimp (disch := first | omega | (simp only [LR] <;> omega) | fail) only [push_cast, simprocAttr, -Nat.reduceSubDiff]))
  refine callC (specValidStore f.st hf.2.1) ?_
  cases c1 : validSt f.st with
  | false =>
    rw [c1, Bool.false_and, Bool.false_and, Bool.false_and, Bool.false_and] at hM
    (simp -dsimp (disch := first | omega | (simp only [hM, LR] <;> omega) | fail) only [push_cast, hM, simprocAttr, -Nat.reduceSubDiff]) <;> (repeat (refine (aw_draw (by kernel_rfl)).2 ?_; simp -dsimp (disch := first | omega | (simp only [hM, LR] <;> omega) | fail) only [push_cast, hM, simprocAttr, -Nat.reduceSubDiff]))
  | true =>
  rw [c1, Bool.true_and] at hM
  (simp -dsimp (disch := first | omega | (simp only [LR] <;> omega) | fail) only [push_cast, simprocAttr, -Nat.reduceSubDiff]) <;> (repeat (refine (aw_draw (by kernel_rfl)).2 ?_; simp -dsimp (disch := first | omega | (simp only [LR] <;> omega) | fail) only [push_cast, simprocAttr, -Nat.reduceSubDiff]))
  refine callC (l2In f.st.P f.nm hp) ?_
  cases c2 : inL f.st.P f.nm with
  | false =>
    rw [c2, Bool.false_and, Bool.false_and, Bool.false_and] at hM
    (simp -dsimp (disch := first | omega | (simp only [hM, LR] <;> omega) | fail) only [push_cast, hM, simprocAttr, -Nat.reduceSubDiff]) <;> (repeat (refine (aw_draw (by kernel_rfl)).2 ?_; simp -dsimp (disch := first | omega | (simp only [hM, LR] <;> omega) | fail) only [push_cast, hM, simprocAttr, -Nat.reduceSubDiff]))
  | true =>
  rw [c2, Bool.true_and] at hM
  (simp -dsimp (disch := first | omega | (simp only [LR] <;> omega) | fail) only [push_cast, simprocAttr, -Nat.reduceSubDiff]) <;> (repeat (refine (aw_draw (by kernel_rfl)).2 ?_; simp -dsimp (disch := first | omega | (simp only [LR] <;> omega) | fail) only [push_cast, simprocAttr, -Nat.reduceSubDiff]))
  refine callC (l1In ..) ?_
  cases c3 : inB f.now 0 1000000 with
  | false =>
    rw [c3, Bool.false_and, Bool.false_and] at hM
    (simp -dsimp (disch := first | omega | (simp only [hM, LR] <;> omega) | fail) only [push_cast, hM, simprocAttr, -Nat.reduceSubDiff]) <;> (repeat (refine (aw_draw (by kernel_rfl)).2 ?_; simp -dsimp (disch := first | omega | (simp only [hM, LR] <;> omega) | fail) only [push_cast, hM, simprocAttr, -Nat.reduceSubDiff]))
  | true =>
  rw [c3, Bool.true_and] at hM
  (simp -dsimp (disch := first | omega | (simp only [LR] <;> omega) | fail) only [push_cast, simprocAttr, -Nat.reduceSubDiff]) <;> (repeat (refine (aw_draw (by kernel_rfl)).2 ?_; simp -dsimp (disch := first | omega | (simp only [LR] <;> omega) | fail) only [push_cast, simprocAttr, -Nat.reduceSubDiff]))
  refine callC (l1In ..) ?_
  cases c4 : inB f.Q.length 1 5 with
  | false =>
    rw [c4, Bool.false_and] at hM
    (simp -dsimp (disch := first | omega | (simp only [hM, LR] <;> omega) | fail) only [push_cast, hM, simprocAttr, -Nat.reduceSubDiff]) <;> (repeat (refine (aw_draw (by kernel_rfl)).2 ?_; simp -dsimp (disch := first | omega | (simp only [hM, LR] <;> omega) | fail) only [push_cast, hM, simprocAttr, -Nat.reduceSubDiff]))
  | true =>
  rw [c4, Bool.true_and] at hM
  (simp -dsimp (disch := first | omega | (simp only [LR] <;> omega) | fail) only [push_cast, simprocAttr, -Nat.reduceSubDiff]) <;> (repeat (refine (aw_draw (by kernel_rfl)).2 ?_; simp -dsimp (disch := first | omega | (simp only [LR] <;> omega) | fail) only [push_cast, simprocAttr, -Nat.reduceSubDiff]))
  refine loop_ind (α := Nat) (fun i => i ≤ f.Q.length ∧ M = (f.Q.drop i).all (peerB f.st.w f.now)) (fun i => ⟨[(1, .pt 1 0 0), (3, .sc (.int .i64 i))], [(1, .bx (fetchC false f))], 2⟩) (fun i => f.Q.length - i) 0 ⟨Nat.zero_le _, hM⟩ ?_ ?_
  · simp -dsimp (disch := first | omega | (simp only [LR] <;> omega) | fail) only [push_cast, simprocAttr, -Nat.reduceSubDiff]
  clear hM
  rintro i ⟨hi, hM⟩ ih
  by_cases h : i < f.Q.length
  rotate_left
  · rw [List.drop_eq_nil_of_le (by omega), List.all_nil] at hM
    (simp -dsimp (disch := first | omega | (simp only [hM, LR] <;> omega) | fail) only [push_cast, hM, simprocAttr, -Nat.reduceSubDiff]) <;> (repeat (refine (aw_draw (by kernel_rfl)).2 ?_; simp -dsimp (disch := first | omega | (simp only [hM, LR] <;> omega) | fail) only [push_cast, hM, simprocAttr, -Nat.reduceSubDiff]))
  obtain ⟨p, hx⟩ := ex_get h
  have hpN := (hf.2.2.2 p (List.mem_of_getElem? hx)).2.1
  rw [all_drop hx] at hM
  simp -dsimp (disch := first | omega | (simp only [hx, LR] <;> omega) | fail) only [push_cast, hx, simprocAttr, -Nat.reduceSubDiff]
  refine callC (l1In ..) ?_
  cases d1 : inB p.lies 0 3 with
  | false =>
    rw [show peerB f.st.w f.now p = false by simp [peerB, d1], Bool.false_and] at hM
    (simp -dsimp (disch := first | omega | (simp only [hM, LR] <;> omega) | fail) only [push_cast, hM, simprocAttr, -Nat.reduceSubDiff]) <;> (repeat (refine (aw_draw (by kernel_rfl)).2 ?_; simp -dsimp (disch := first | omega | (simp only [hM, LR] <;> omega) | fail) only [push_cast, hM, simprocAttr, -Nat.reduceSubDiff]))
  | true =>
  simp -dsimp (disch := first | omega | (simp only [LR] <;> omega) | fail) only [push_cast, simprocAttr, -Nat.reduceSubDiff]
  refine callC (l1In ..) ?_
  cases d2 : inB p.wait 0 5 with
  | false =>
    rw [show peerB f.st.w f.now p = false by simp [peerB, d2], Bool.false_and] at hM
    (simp -dsimp (disch := first | omega | (simp only [hM, LR] <;> omega) | fail) only [push_cast, hM, simprocAttr, -Nat.reduceSubDiff]) <;> (repeat (refine (aw_draw (by kernel_rfl)).2 ?_; simp -dsimp (disch := first | omega | (simp only [hM, LR] <;> omega) | fail) only [push_cast, hM, simprocAttr, -Nat.reduceSubDiff]))
  | true =>
  simp -dsimp (disch := first | omega | (simp only [LR] <;> omega) | fail) only [push_cast, simprocAttr, -Nat.reduceSubDiff]
  refine callC (l1In ..) ?_
  cases d3 : inB p.last (-1) f.now with
  | false =>
    rw [show peerB f.st.w f.now p = false by simp [peerB, d3], Bool.false_and] at hM
    (simp -dsimp (disch := first | omega | (simp only [hM, LR] <;> omega) | fail) only [push_cast, hM, simprocAttr, -Nat.reduceSubDiff]) <;> (repeat (refine (aw_draw (by kernel_rfl)).2 ?_; simp -dsimp (disch := first | omega | (simp only [hM, LR] <;> omega) | fail) only [push_cast, hM, simprocAttr, -Nat.reduceSubDiff]))
  | true =>
  by_cases d4 : p.N.length ≤ 376
  rotate_left
  · rw [show peerB f.st.w f.now p = false by simp [peerB, d4], Bool.false_and] at hM
    (simp -dsimp (disch := first | omega | (simp only [hM, LR] <;> omega) | fail) only [push_cast, hM, simprocAttr, -Nat.reduceSubDiff]) <;> (repeat (refine (aw_draw (by kernel_rfl)).2 ?_; simp -dsimp (disch := first | omega | (simp only [hM, LR] <;> omega) | fail) only [push_cast, hM, simprocAttr, -Nat.reduceSubDiff]))
  have d2b : 0 ≤ p.wait ∧ p.wait ≤ 5 := by unfold inB at d2; exact of_decide_eq_true d2
  have hpb : askB f.st.w p.wait p.ask = true → peerB f.st.w f.now p = ascF f.st.w none p.N := fun h => by simp [peerB, d1, d2, d3, d4, h]
  have hpf : askB f.st.w p.wait p.ask = false → M = false := fun h => by rw [hM, show peerB f.st.w f.now p = false by simp [peerB, h], Bool.false_and]
  have hcase : ((0 < p.wait ∧ (p.ask.size : Int) = f.st.w) ∨ (p.wait = 0 ∧ p.ask = ⟨#[]⟩)) ∨ (0 < p.wait ∧ ¬ (p.ask.size : Int) = f.st.w) ∨ (p.wait = 0 ∧ ¬ p.ask = ⟨#[]⟩) := by
    by_cases hw : 0 < p.wait
    · by_cases h2 : (p.ask.size : Int) = f.st.w
      · exact .inl (.inl ⟨hw, h2⟩)
      · exact .inr (.inl ⟨hw, h2⟩)
    · by_cases h2 : p.ask = ⟨#[]⟩
      · exact .inl (.inr ⟨by omega, h2⟩)
      · exact .inr (.inr ⟨by omega, h2⟩)
  rcases hcase with hok | ⟨hw, h2⟩ | ⟨hw, h2⟩
  rotate_left
  · have := hpf (by unfold askB; rw [decide_eq_true hw, cond_true]; exact decide_eq_false h2)
    (simp -dsimp (disch := first | omega | (simp only [h2, this, LR] <;> omega) | fail) only [push_cast, h2, this, simprocAttr, -Nat.reduceSubDiff]) <;> (repeat (refine (aw_draw (by kernel_rfl)).2 ?_; simp -dsimp (disch := first | omega | (simp only [h2, this, LR] <;> omega) | fail) only [push_cast, h2, this, simprocAttr, -Nat.reduceSubDiff]))
  · have := hpf (by unfold askB; rw [hw]; simp [em, h2])
    (simp -dsimp (disch := first | omega | (simp only [hw, h2, this, LR] <;> omega) | fail) only [push_cast, hw, h2, this, simprocAttr, -Nat.reduceSubDiff]) <;> (repeat (refine (aw_draw (by kernel_rfl)).2 ?_; simp -dsimp (disch := first | omega | (simp only [hw, h2, this, LR] <;> omega) | fail) only [push_cast, hw, h2, this, simprocAttr, -Nat.reduceSubDiff]))
  have hpb := hpb (by unfold askB; rcases hok with ⟨hw, h2⟩ | ⟨hw, h2⟩; · rw [decide_eq_true hw, cond_true]; exact decide_eq_true h2
                      · rw [hw, h2]; rfl)
  rw [hpb] at hM
  obtain ⟨R, hR⟩ : ∃ R, R = (f.Q.drop (i + 1)).all (peerB f.st.w f.now) := ⟨_, rfl⟩
  rw [← hR] at hM
  have hok2 : (0 < p.wait ∧ decide ((p.ask.size : Int) = f.st.w) = true) ∨ (p.wait = 0 ∧ decide (p.ask = ⟨#[]⟩) = true) := by
    rcases hok with ⟨hw, h2⟩ | ⟨hw, h2⟩
    · exact .inl ⟨hw, decide_eq_true h2⟩
    · exact .inr ⟨hw, decide_eq_true h2⟩
  clear hok hpb hpf
  rcases hok2 with ⟨hw, h2⟩ | ⟨hw, h2⟩
  all_goals
    (simp -dsimp (disch := first | omega | (simp only [h2, LR] <;> omega) | fail) only [push_cast, h2, simprocAttr, -Nat.reduceSubDiff]) <;> (repeat (refine (aw_draw (by kernel_rfl)).2 ?_; simp -dsimp (disch := first | omega | (simp only [h2, LR] <;> omega) | fail) only [push_cast, h2, simprocAttr, -Nat.reduceSubDiff]))
    refine loop_ind (α := Nat) (fun k => k ≤ p.N.length ∧ M = (ascF f.st.w (bif k == 0 then none else p.N[k - 1]?) (p.N.drop k) && R)) (fun k => ⟨[(1, .pt 1 0 0), (3, .sc (.int .i64 i)), (4, .pt 2 0 0), (5, .sc (.int .i64 k))], [(1, .bx (fetchC false f)), (2, .bx (peerC false p))], 3⟩) (fun k => p.N.length - k) 0 ⟨Nat.zero_le _, hM⟩ ?_ ?_
    · simp -dsimp (disch := first | omega | (simp only [LR] <;> omega) | fail) only [push_cast, simprocAttr, -Nat.reduceSubDiff]
    clear hM
    rintro k ⟨hk, hy⟩ ihk
    by_cases hkl : k < p.N.length
    rotate_left
    · rw [List.drop_eq_nil_of_le (by omega), ascF, Bool.true_and, hR] at hy
      simp -dsimp (disch := first | omega | (simp only [LR] <;> omega) | fail) only [push_cast, simprocAttr, -Nat.reduceSubDiff]
      refine ih (i + 1) _ (by omega) ⟨h, hy⟩ ?_
      simp -dsimp (disch := first | omega | (simp only [wr_id, LR] <;> omega) | fail) only [push_cast, wr_id, simprocAttr, -Nat.reduceSubDiff]
    obtain ⟨s, hx⟩ := ex_get hkl
    rw [drop_step hx, ascF] at hy
    have hs : ∀ P, (bif k + 1 == 0 then none else p.N[k + 1 - 1]?) = P → P = some s := fun P e => by rw [← e, show (k + 1 == 0) = false by simp, cond_false, Nat.add_sub_cancel, hx]
    by_cases e1 : (s.size : Int) = f.st.w
    rotate_left
    · rw [show decide ((s.size : Int) = f.st.w) = false by simp [e1], Bool.false_and, Bool.false_and, Bool.false_and] at hy
      (simp -dsimp (disch := first | omega | (simp only [hx, e1, hy, LR] <;> omega) | fail) only [push_cast, hx, e1, hy, simprocAttr, -Nat.reduceSubDiff]) <;> (repeat (refine (aw_draw (by kernel_rfl)).2 ?_; simp -dsimp (disch := first | omega | (simp only [hx, e1, hy, LR] <;> omega) | fail) only [push_cast, hx, e1, hy, simprocAttr, -Nat.reduceSubDiff]))
    rw [show decide ((s.size : Int) = f.st.w) = true by simp [e1], Bool.true_and] at hy
    by_cases e2 : k = 0
    · subst e2
      rw [show aft (bif 0 == 0 then none else p.N[0 - 1]?) s = true from rfl, Bool.true_and] at hy
      (simp -dsimp (disch := first | omega | (simp only [hx, e1, LR] <;> omega) | fail) only [push_cast, hx, e1, simprocAttr, -Nat.reduceSubDiff]) <;> (repeat (refine (aw_draw (by kernel_rfl)).2 ?_; simp -dsimp (disch := first | omega | (simp only [hx, e1, LR] <;> omega) | fail) only [push_cast, hx, e1, simprocAttr, -Nat.reduceSubDiff]))
      refine ihk 1 _ (by omega) ⟨hkl, by rw [hs _ rfl]; exact hy⟩ ?_
      simp -dsimp (disch := first | omega | (simp only [wr_id, LR] <;> omega) | fail) only [push_cast, wr_id, simprocAttr, -Nat.reduceSubDiff]
    · obtain ⟨q, hq⟩ := ex_get (show k - 1 < p.N.length by omega)
      rw [show (bif k == 0 then none else p.N[k - 1]?) = some q by rw [show (k == 0) = false by simp [e2]]; exact hq, show aft (some q) s = lts q s from rfl] at hy
      have e3 : ((k : Int) - 1).toNat = k - 1 := by omega
      cases e4 : lts q s with
      | false =>
        rw [e4, Bool.false_and, Bool.false_and] at hy
        (simp -dsimp (disch := first | omega | (simp only [hx, hq, e1, e3, wr_id, e4, hy, LR] <;> omega) | fail) only [push_cast, hx, hq, e1, e3, wr_id, e4, hy, simprocAttr, -Nat.reduceSubDiff]) <;> (repeat (refine (aw_draw (by kernel_rfl)).2 ?_; simp -dsimp (disch := first | omega | (simp only [hx, hq, e1, e3, wr_id, e4, hy, LR] <;> omega) | fail) only [push_cast, hx, hq, e1, e3, wr_id, e4, hy, simprocAttr, -Nat.reduceSubDiff]))
      | true =>
        rw [e4, Bool.true_and] at hy
        (simp -dsimp (disch := first | omega | (simp only [hx, hq, e1, e3, wr_id, e4, LR] <;> omega) | fail) only [push_cast, hx, hq, e1, e3, wr_id, e4, simprocAttr, -Nat.reduceSubDiff]) <;> (repeat (refine (aw_draw (by kernel_rfl)).2 ?_; simp -dsimp (disch := first | omega | (simp only [hx, hq, e1, e3, wr_id, e4, LR] <;> omega) | fail) only [push_cast, hx, hq, e1, e3, wr_id, e4, simprocAttr, -Nat.reduceSubDiff]))
        refine ihk (k + 1) _ (by omega) ⟨hkl, by rw [hs _ rfl]; exact hy⟩ ?_
        simp -dsimp (disch := first | omega | (simp only [wr_id, LR] <;> omega) | fail) only [push_cast, wr_id, simprocAttr, -Nat.reduceSubDiff]
end Go.Proofs.YtkkmgjhfjhcdmaaGreatDoor.Mx

/- Names that a store needs: pure. -/
namespace Go.Proofs.YtkkmgjhfjhcdmaaGreatDoor.Mx
set_option linter.all false
open Go Go.RowKit
theorem list_false {s : Store} {n : Str} (h : (listF s n).2 = false) : (listF s n).1 = ⟨0, []⟩ := by
  unfold listF at h ⊢
  split
  · rfl
  · rename_i h1
    rw [if_neg h1] at h
    split
    · rename_i x hx
      rw [hx] at h
      exact read_fst h
    · rfl
noncomputable def nmsF (s : Store) (p : Str) : List Str := p :: (listF s p).1.S
noncomputable def nmsL (s : Store) : List Str := s.P.flatMap (nmsF s)
noncomputable def needF (s : Store) : List Str := if validSt s = false then [] else (nmsL s).foldl addS []
theorem nms_step {s : Store} {i : Nat} {p : Str} (h : s.P[i]? = some p) : (s.P.take (i + 1)).flatMap (nmsF s) = (s.P.take i).flatMap (nmsF s) ++ nmsF s p := by
  rw [take_step h, List.flatMap_append, List.flatMap_singleton]
theorem addS_len1 (l : List Str) (s : Str) : (addS l s).length ≤ l.length + 1 := by
  unfold addS; cases hasS l s <;> simp <;> omega
theorem foldS_len : ∀ (L A : List Str), (L.foldl addS A).length ≤ A.length + L.length
  | [], A => Nat.le_refl _
  | x :: r, A => by
    rw [List.foldl_cons]
    have := foldS_len r (addS A x)
    have := addS_len1 A x
    rw [List.length_cons]; omega
theorem nms_len (s : Store) : ∀ (P : List Str), (P.flatMap (nmsF s)).length ≤ 376 * P.length
  | [] => by simp
  | p :: r => by
    have h1 := nms_len s r
    have h2 := (list_ok (s := s) (n := p)).1
    have h3 : (nmsF s p).length = 1 + (listF s p).1.S.length := by unfold nmsF; rw [List.length_cons]; omega
    rw [List.flatMap_cons, List.length_append, List.length_cons, h3]
    omega
end Go.Proofs.YtkkmgjhfjhcdmaaGreatDoor.Mx

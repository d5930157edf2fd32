/- A machine over values for Go functions, proved sound, and functions run on it: texts F64, F44, V15, F61, F65, V16, V17, F67, V18, F69, F70, F71. -/
import Derived.Test.YtkkmgjhfjhcdmaaGreatDoorShC
import Derived.Sort.Defs
import Derived.Test.YtkkmgjhfjhcdmaaGreatDoorShK
import Derived.Deep.QuietTactic
import Derived.Test.YtkkmgjhfjhcdmaaGreatDoorFetchTickXaa
import Derived.Test.YtkkmgjhfjhcdmaaGreatDoorFetchTickXab
import Derived.Test.YtkkmgjhfjhcdmaaGreatDoorFetchTickXaf
import Derived.Test.YtkkmgjhfjhcdmaaGreatDoorFetchTickXah
import Derived.Test.YtkkmgjhfjhcdmaaGreatDoorFetchTickXak
import Derived.Test.YtkkmgjhfjhcdmaaGreatDoorFetchTickXal
/- A fetch ticks: the reference's parts. -/
namespace Go.Proofs.YtkkmgjhfjhcdmaaGreatDoor.Mx
set_option linter.all false
open Go Go.RowKit Go.Proofs
set_option linter.unusedSimpArgs false
def E86 : Env := { T := T0, kp := look [(0, [0, 1]), (1, [1, 2]), (2, [1, 2, 5]), (3, [1, 2, 5, 6]), (4, [1, 2, 5, 6]), (5, [1, 2, 5, 6]), (6, [1, 2, 5, 6, 7]), (7, [1, 2, 6]), (8, [5])], dp := look2 [(6, [[], [], [0, 1], [0, 1, 2], [0, 1, 2, 3], [0, 1, 2, 3, 4], [0, 1, 2, 3, 4, 5], [0, 1, 2, 3, 4, 5, 6], [0, 1, 2, 3, 4, 5, 6, 7], [0, 1, 2, 3, 4, 5, 6, 7, 8], [0, 1, 2, 3, 4, 5, 6, 7, 8, 9], [0, 1, 2, 3, 4, 5, 6, 7, 8, 9, 10], [0, 1, 2, 3, 4, 5, 6, 7, 8, 9, 10, 11], [0, 1, 2, 3, 4, 5, 6, 7, 8, 9, 10, 11, 12], [0, 1, 2, 3, 4, 5, 6, 7, 8, 9, 10, 11, 12, 13], [0, 1, 2, 3, 4, 5, 6, 7, 8, 9, 10, 11, 12, 13, 14], [0, 1, 2, 3, 4, 5, 6, 7, 8, 9, 10, 11, 12, 13, 14, 15], [0, 1, 2, 3, 4, 5, 6, 7, 8, 9, 10, 11, 12, 13, 14, 15, 16], [0, 1, 2, 3, 4, 5, 6, 7, 8, 9, 10, 11, 12, 13, 14, 15, 16, 17], [0, 1, 2, 3, 4, 5, 6, 7, 8, 9, 10, 11, 12, 13, 14, 15, 16, 17, 18], [0, 1, 2, 3, 4, 5, 6, 7, 8, 9, 10, 11, 12, 13, 14, 15, 16, 17, 18, 19], [0, 1, 2, 3, 4, 5, 6, 7, 8, 9, 10, 11, 12, 13, 14, 15, 16, 17, 18], [0, 1, 2, 3, 4, 5, 6, 7, 8, 9, 10, 11, 12, 13, 14, 15, 16, 17, 18, 21], [0, 1, 2, 3, 4, 5, 6, 7, 8, 9, 10, 11, 12, 13, 14, 15, 16, 17, 18], [0, 1, 2, 3, 4, 5, 6, 7, 8, 9, 10, 11, 12, 13, 14, 15, 16, 17, 18, 21, 22, 23], [0, 1, 2, 3, 4, 5, 6, 7, 8, 9, 10, 11, 12, 13, 14, 15, 16, 17, 18, 21, 22, 23, 24], [0, 1, 2, 3, 4, 5, 6, 7, 8, 9, 10, 11, 12, 13, 14, 15, 16, 17, 18, 21, 22, 23, 24, 25], [0, 1, 2, 3, 4, 5, 6, 7, 8, 9, 10, 11, 12, 13, 14, 15, 16, 17, 18, 19, 20, 21, 22, 23, 24, 25, 26], [0, 1, 2, 3, 4, 5, 6, 7, 8, 9, 10, 11, 12, 13, 14, 15, 16, 17, 18, 19, 20, 21, 22, 23, 24, 25, 26, 27], [0, 1, 2, 3, 4, 5, 6, 7, 8, 9, 10, 11, 12, 13, 14, 15, 16, 17, 18, 19, 20, 21, 22, 23, 24, 25, 26, 27, 28]])] }
attribute [local push_cast] E86
set_option maxRecDepth 20000 in
set_option maxHeartbeats 4000000 in
theorem l7Next (f : Fetch) (S : List Bool) (hf : okFetch f) (hS : S.length = f.Q.length) : Does Tryz.prog 86 [.ag (fetchC false f), .sl false 1 (S.map boolR)] (.sc (.int .i64 (nextF f.Q S f.Q.length)), []) := by
  refine does_of (E := E86) (rs := [.tmp 4]) (lent := []) tOk rfl Tryz.func86 rfl (by decide) rfl rfl (Nat.le_of_ble_eq_true rfl) (Nat.le_of_ble_eq_true rfl) ?_
  obtain ⟨M, hM⟩ : ∃ M, M = nextF f.Q S f.Q.length := ⟨_, rfl⟩
  rw [← hM]
  have hl := hf.2.2.1
  (simp -dsimp (disch := first | omega | (simp only [LR] <;> omega) | fail) only [push_cast, simprocAttr, -Nat.reduceSubDiff]) <;> (repeat (refine (aw_draw (by kernel_rfl)).2 ?_; simp -dsimp (disch := first | omega | (simp only [LR] <;> omega) | fail) only [push_cast, simprocAttr, -Nat.reduceSubDiff]))
  refine loop_ind (α := Nat) (fun i => i ≤ f.Q.length)
    (fun i => ⟨[(1, .sl false 1 (S.map boolR)), (2, .pt 1 0 0), (5, .sc (.int .i64 (nextF f.Q S i))), (6, .sc (.int .i64 i))], [(1, .bx (fetchC false f))], 2⟩) (fun i => f.Q.length - i) 0 (Nat.zero_le _) ?_ ?_
  · simp -dsimp (disch := first | omega | (simp only [nextF, LR] <;> omega) | fail) only [push_cast, nextF, simprocAttr, -Nat.reduceSubDiff]
  intro i hi ih
  by_cases h : i < f.Q.length
  · obtain ⟨p, hp⟩ := ex_get h
    obtain ⟨b, hb⟩ := ex_get (show i < S.length by omega)
    have hst : nextF f.Q S (i + 1) = if b = false ∧ freeP p = true ∧ (nextF f.Q S i < 0 ∨ p.last < lastAt f.Q (nextF f.Q S i)) then (i : Int) else nextF f.Q S i := by rw [nextF, hp, hb]
    have hr := next_rng f.Q S i
    obtain ⟨B, hB⟩ : ∃ B, B = nextF f.Q S i := ⟨_, rfl⟩
    rw [← hB] at hst hr ⊢
    cases b with
    | true =>
      rw [if_neg (by simp)] at hst
      (simp -dsimp (disch := first | omega | (simp only [h, hp, hb, LR] <;> omega) | fail) only [push_cast, h, hp, hb, simprocAttr, -Nat.reduceSubDiff]) <;> (repeat (refine (aw_draw (by kernel_rfl)).2 ?_; simp -dsimp (disch := first | omega | (simp only [h, hp, hb, LR] <;> omega) | fail) only [push_cast, h, hp, hb, simprocAttr, -Nat.reduceSubDiff]))
      refine ih (i + 1) _ (by omega) h ?_
      rw [hst]
      simp -dsimp (disch := first | omega | (simp only [wr_id, LR] <;> omega) | fail) only [push_cast, wr_id, simprocAttr, -Nat.reduceSubDiff]
    | false =>
    by_cases w0 : p.wait = 0
    rotate_left
    · have hfr : freeP p = false := by unfold freeP; simp [w0]
      rw [if_neg (by rw [hfr]; simp)] at hst
      (simp -dsimp (disch := first | omega | (simp only [h, hp, hb, w0, LR] <;> omega) | fail) only [push_cast, h, hp, hb, w0, simprocAttr, -Nat.reduceSubDiff]) <;> (repeat (refine (aw_draw (by kernel_rfl)).2 ?_; simp -dsimp (disch := first | omega | (simp only [h, hp, hb, w0, LR] <;> omega) | fail) only [push_cast, h, hp, hb, w0, simprocAttr, -Nat.reduceSubDiff]))
      refine ih (i + 1) _ (by omega) h ?_
      rw [hst]
      simp -dsimp (disch := first | omega | (simp only [wr_id, LR] <;> omega) | fail) only [push_cast, wr_id, simprocAttr, -Nat.reduceSubDiff]
    by_cases l0 : p.lies < 3
    rotate_left
    · have hfr : freeP p = false := by unfold freeP; simp [l0]
      rw [if_neg (by rw [hfr]; simp)] at hst
      (simp -dsimp (disch := first | omega | (simp only [h, hp, hb, w0, l0, LR] <;> omega) | fail) only [push_cast, h, hp, hb, w0, l0, simprocAttr, -Nat.reduceSubDiff]) <;> (repeat (refine (aw_draw (by kernel_rfl)).2 ?_; simp -dsimp (disch := first | omega | (simp only [h, hp, hb, w0, l0, LR] <;> omega) | fail) only [push_cast, h, hp, hb, w0, l0, simprocAttr, -Nat.reduceSubDiff]))
      refine ih (i + 1) _ (by omega) h ?_
      rw [hst]
      simp -dsimp (disch := first | omega | (simp only [wr_id, LR] <;> omega) | fail) only [push_cast, wr_id, simprocAttr, -Nat.reduceSubDiff]
    have hfr : freeP p = true := by unfold freeP; simp [w0, l0]
    by_cases hB0 : B < 0
    · rw [if_pos ⟨rfl, hfr, .inl hB0⟩] at hst
      (simp -dsimp (disch := first | omega | (simp only [h, hp, hb, w0, l0, hB0, LR] <;> omega) | fail) only [push_cast, h, hp, hb, w0, l0, hB0, simprocAttr, -Nat.reduceSubDiff]) <;> (repeat (refine (aw_draw (by kernel_rfl)).2 ?_; simp -dsimp (disch := first | omega | (simp only [h, hp, hb, w0, l0, hB0, LR] <;> omega) | fail) only [push_cast, h, hp, hb, w0, l0, hB0, simprocAttr, -Nat.reduceSubDiff]))
      refine ih (i + 1) _ (by omega) h ?_
      rw [hst]
      simp -dsimp (disch := first | omega | (simp only [wr_id, LR] <;> omega) | fail) only [push_cast, wr_id, simprocAttr, -Nat.reduceSubDiff]
    obtain ⟨k, hk⟩ : ∃ k : Nat, B = k := ⟨B.toNat, by omega⟩
    rw [hk] at hst hB0 hr ⊢
    obtain ⟨y, hy⟩ := ex_get (show k < f.Q.length by omega)
    have hua : lastAt f.Q (k : Int) = y.last := by unfold lastAt; rw [Int.toNat_natCast, hy]
    rw [hua] at hst
    by_cases hlt : p.last < y.last
    · rw [if_pos ⟨rfl, hfr, .inr hlt⟩] at hst
      (simp -dsimp (disch := first | omega | (simp only [h, hp, hb, hy, w0, l0, hB0, hlt, LR] <;> omega) | fail) only [push_cast, h, hp, hb, hy, w0, l0, hB0, hlt, simprocAttr, -Nat.reduceSubDiff]) <;> (repeat (refine (aw_draw (by kernel_rfl)).2 ?_; simp -dsimp (disch := first | omega | (simp only [h, hp, hb, hy, w0, l0, hB0, hlt, LR] <;> omega) | fail) only [push_cast, h, hp, hb, hy, w0, l0, hB0, hlt, simprocAttr, -Nat.reduceSubDiff]))
      refine ih (i + 1) _ (by omega) h ?_
      rw [hst]
      simp -dsimp (disch := first | omega | (simp only [wr_id, LR] <;> omega) | fail) only [push_cast, wr_id, simprocAttr, -Nat.reduceSubDiff]
    · rw [if_neg (by rintro ⟨_, _, q | q⟩; exact hB0 q; exact hlt q)] at hst
      (simp -dsimp (disch := first | omega | (simp only [h, hp, hb, hy, w0, l0, hB0, hlt, LR] <;> omega) | fail) only [push_cast, h, hp, hb, hy, w0, l0, hB0, hlt, simprocAttr, -Nat.reduceSubDiff]) <;> (repeat (refine (aw_draw (by kernel_rfl)).2 ?_; simp -dsimp (disch := first | omega | (simp only [h, hp, hb, hy, w0, l0, hB0, hlt, LR] <;> omega) | fail) only [push_cast, h, hp, hb, hy, w0, l0, hB0, hlt, simprocAttr, -Nat.reduceSubDiff]))
      refine ih (i + 1) _ (by omega) h ?_
      rw [hst]
      simp -dsimp (disch := first | omega | (simp only [wr_id, LR] <;> omega) | fail) only [push_cast, wr_id, simprocAttr, -Nat.reduceSubDiff]
  · have hi : i = f.Q.length := by omega
    subst hi
    (simp -dsimp (disch := first | omega | (simp only [← hM, LR] <;> omega) | fail) only [push_cast, ← hM, simprocAttr, -Nat.reduceSubDiff]) <;> (repeat (refine (aw_draw (by kernel_rfl)).2 ?_; simp -dsimp (disch := first | omega | (simp only [← hM, LR] <;> omega) | fail) only [push_cast, ← hM, simprocAttr, -Nat.reduceSubDiff]))
def E87 : Env := { T := T0, kp := look [(0, [0, 1, 2]), (1, [1, 2, 3]), (2, [1, 2, 3, 7]), (3, [1, 2, 3, 7]), (4, [1, 2, 3, 7]), (5, [1, 2, 3, 7, 8]), (6, [1, 2, 3, 7, 8, 9]), (7, [1, 2, 3, 7, 8, 9]), (8, [1, 2, 3, 7, 8, 9]), (9, [1, 2, 3, 7, 9]), (10, [1, 2, 3, 7, 8]), (11, [1, 7]), (12, [])], dp := look2 [(4, [[], [0], [], [0, 1, 2], [0, 1, 2, 3], [0, 1, 2, 3, 4], [], [], [6, 7], [6, 7, 8], [0, 1, 2, 3, 4, 5, 6, 7, 8, 9], [0, 1, 2, 3, 4, 5, 6, 7, 8, 9, 10], [0, 1, 2, 3, 4, 5, 6, 7, 8, 9, 10, 11]]), (8, [[], [0], [], [0, 1, 2], [0, 1, 2, 3], [0, 1, 2, 3, 4], [0, 1, 2, 3, 4, 5], [0, 1, 2, 3, 4, 5, 6], [0, 1, 2, 3, 4, 5, 6, 7], [0, 1, 2, 3, 4, 5, 6, 7, 8], [0, 1, 2, 3, 4, 5, 6, 7], [0, 1, 2, 3, 4, 5, 6, 7, 8, 9, 10], [0, 1, 2, 3, 4, 5, 6, 7, 8, 9, 10, 11], [0, 1, 2, 3, 4, 5, 6, 7, 8, 9, 10, 11, 12], [0, 1, 2, 3, 4, 5, 6, 7], [0, 1, 2, 3, 4, 5, 6, 7], [0, 1, 2, 3, 4, 5, 6, 7, 14, 15], [0, 1, 2, 3, 4, 5, 6, 7, 14, 15, 16], [0, 1, 2, 3, 4, 5, 6, 7, 8, 9, 10, 11, 12, 13, 14, 15, 16, 17], [0, 1, 2, 3, 4, 5, 6, 7, 8, 9, 10, 11, 12, 13, 14, 15, 16, 17, 18]])] }
attribute [local push_cast] E87
set_option maxRecDepth 20000 in
set_option maxHeartbeats 4000000 in
theorem l7Choice (f : Fetch) (L : List Str) (at_ : Nat) (p : Peer) (hf : okFetch f) (hL : L.length ≤ 2097152) (hp : f.Q[at_]? = some p) : Does Tryz.prog 87 [.ag (fetchC false f), .sl false 1 (L.map strR), .sc (.int .i64 at_)] (.sc (.string (pickL f.Q p L)), []) := by
  refine does_of (E := E87) (rs := [.tmp 6]) (lent := []) tOk rfl Tryz.func87 rfl (by decide) rfl rfl (Nat.le_of_ble_eq_true rfl) (Nat.le_of_ble_eq_true rfl) ?_
  obtain ⟨M, hM⟩ : ∃ M, M = pickL f.Q p L := ⟨_, rfl⟩
  rw [← hM]
  have hl := hf.2.2.1
  have hpN := (hf.2.2.2 p (List.mem_of_getElem? hp)).2.1
  have hat := (List.getElem?_eq_some_iff.1 hp).1
  (simp -dsimp (disch := first | omega | (simp only [LR] <;> omega) | fail) only [push_cast, simprocAttr, -Nat.reduceSubDiff]) <;> (repeat (refine (aw_draw (by kernel_rfl)).2 ?_; simp -dsimp (disch := first | omega | (simp only [LR] <;> omega) | fail) only [push_cast, simprocAttr, -Nat.reduceSubDiff]))
  refine loop_ind (α := Nat) (fun i => i ≤ L.length ∧ pickL f.Q p (L.drop i) = M)
    (fun i => ⟨[(1, .sl false 1 (L.map strR)), (2, .sc (.int .i64 at_)), (3, .pt 1 0 0), (7, .sc (.int .i64 i))], [(1, .bx (fetchC false f))], 2⟩) (fun i => L.length - i) 0 ⟨Nat.zero_le _, by rw [hM]; rfl⟩ ?_ ?_
  · simp -dsimp (disch := first | omega | (simp only [LR] <;> omega) | fail) only [push_cast, simprocAttr, -Nat.reduceSubDiff]
  rintro i ⟨hi, hq⟩ ih
  by_cases h : i < L.length
  rotate_left
  · rw [List.drop_eq_nil_of_le (by omega), pickL] at hq
    subst hq
    (simp -dsimp (disch := first | omega | (simp only [h, LR] <;> omega) | fail) only [push_cast, h, simprocAttr, -Nat.reduceSubDiff]) <;> (repeat (refine (aw_draw (by kernel_rfl)).2 ?_; simp -dsimp (disch := first | omega | (simp only [h, LR] <;> omega) | fail) only [push_cast, h, simprocAttr, -Nat.reduceSubDiff]))
  obtain ⟨x, hx⟩ := ex_get h
  rw [drop_step hx, pickL] at hq
  (simp -dsimp (disch := first | omega | (simp only [h, hx, hp, LR] <;> omega) | fail) only [push_cast, h, hx, hp, simprocAttr, -Nat.reduceSubDiff]) <;> (repeat (refine (aw_draw (by kernel_rfl)).2 ?_; simp -dsimp (disch := first | omega | (simp only [h, hx, hp, LR] <;> omega) | fail) only [push_cast, h, hx, hp, simprocAttr, -Nat.reduceSubDiff]))
  refine callC (l2In p.N x hpN) ?_
  (simp -dsimp (disch := first | omega | (simp only [h, hx, hp, LR] <;> omega) | fail) only [push_cast, h, hx, hp, simprocAttr, -Nat.reduceSubDiff]) <;> (repeat (refine (aw_draw (by kernel_rfl)).2 ?_; simp -dsimp (disch := first | omega | (simp only [h, hx, hp, LR] <;> omega) | fail) only [push_cast, h, hx, hp, simprocAttr, -Nat.reduceSubDiff]))
  refine loop_ind (α := Nat) (fun k => k ≤ f.Q.length)
    (fun k => ⟨[(1, .sl false 1 (L.map strR)), (2, .sc (.int .i64 at_)), (3, .pt 1 0 0), (7, .sc (.int .i64 i)), (8, .sc (.bool (!inL p.N x && !askedB (f.Q.take k) x))), (9, .sc (.int .i64 k))], [(1, .bx (fetchC false f))], 2⟩) (fun k => f.Q.length - k) 0 (Nat.zero_le _) ?_ ?_
  · simp -dsimp (disch := first | omega | (simp only [askedB, List.take_zero, List.any_nil, LR] <;> omega) | fail) only [push_cast, askedB, List.take_zero, List.any_nil, simprocAttr, -Nat.reduceSubDiff]
  intro k hk ih2
  by_cases h2 : k < f.Q.length
  · obtain ⟨y, hy⟩ := ex_get h2
    have hst : askedB (f.Q.take (k + 1)) x = (askedB (f.Q.take k) x || (decide (0 < y.wait) && decide (y.ask = x))) := by
      unfold askedB; rw [take_step hy, List.any_append]; simp
    obtain ⟨A, hA⟩ : ∃ A, A = askedB (f.Q.take k) x := ⟨_, rfl⟩
    rw [← hA] at hst ⊢
    by_cases w0 : 0 < y.wait
    · by_cases a0 : y.ask = x
      · (simp -dsimp (disch := first | omega | (simp only [h2, hx, hy, w0, a0, LR] <;> omega) | fail) only [push_cast, h2, hx, hy, w0, a0, simprocAttr, -Nat.reduceSubDiff]) <;> (repeat (refine (aw_draw (by kernel_rfl)).2 ?_; simp -dsimp (disch := first | omega | (simp only [h2, hx, hy, w0, a0, LR] <;> omega) | fail) only [push_cast, h2, hx, hy, w0, a0, simprocAttr, -Nat.reduceSubDiff]))
        refine ih2 (k + 1) _ (by omega) h2 ?_
        rw [hst]
        simp -dsimp (disch := first | omega | (simp only [wr_id, w0, a0, LR] <;> omega) | fail) only [push_cast, wr_id, w0, a0, simprocAttr, -Nat.reduceSubDiff]
      · (simp -dsimp (disch := first | omega | (simp only [h2, hx, hy, w0, a0, LR] <;> omega) | fail) only [push_cast, h2, hx, hy, w0, a0, simprocAttr, -Nat.reduceSubDiff]) <;> (repeat (refine (aw_draw (by kernel_rfl)).2 ?_; simp -dsimp (disch := first | omega | (simp only [h2, hx, hy, w0, a0, LR] <;> omega) | fail) only [push_cast, h2, hx, hy, w0, a0, simprocAttr, -Nat.reduceSubDiff]))
        refine ih2 (k + 1) _ (by omega) h2 ?_
        rw [hst]
        simp -dsimp (disch := first | omega | (simp only [wr_id, w0, a0, LR] <;> omega) | fail) only [push_cast, wr_id, w0, a0, simprocAttr, -Nat.reduceSubDiff]
    · (simp -dsimp (disch := first | omega | (simp only [h2, hx, hy, w0, LR] <;> omega) | fail) only [push_cast, h2, hx, hy, w0, simprocAttr, -Nat.reduceSubDiff]) <;> (repeat (refine (aw_draw (by kernel_rfl)).2 ?_; simp -dsimp (disch := first | omega | (simp only [h2, hx, hy, w0, LR] <;> omega) | fail) only [push_cast, h2, hx, hy, w0, simprocAttr, -Nat.reduceSubDiff]))
      refine ih2 (k + 1) _ (by omega) h2 ?_
      rw [hst]
      simp -dsimp (disch := first | omega | (simp only [wr_id, w0, LR] <;> omega) | fail) only [push_cast, wr_id, w0, simprocAttr, -Nat.reduceSubDiff]
  · rw [show f.Q.take k = f.Q from List.take_of_length_le (by omega)]
    by_cases hc : inL p.N x = false ∧ askedB f.Q x = false
    · rw [if_pos hc] at hq
      subst hq
      (simp -dsimp (disch := first | omega | (simp only [h, h2, hx, hc.1, hc.2, LR] <;> omega) | fail) only [push_cast, h, h2, hx, hc.1, hc.2, simprocAttr, -Nat.reduceSubDiff]) <;> (repeat (refine (aw_draw (by kernel_rfl)).2 ?_; simp -dsimp (disch := first | omega | (simp only [h, h2, hx, hc.1, hc.2, LR] <;> omega) | fail) only [push_cast, h, h2, hx, hc.1, hc.2, simprocAttr, -Nat.reduceSubDiff]))
    · rw [if_neg hc] at hq
      have hb : (!inL p.N x && !askedB f.Q x) = false := by
        cases a : inL p.N x with
        | true => rfl
        | false =>
          cases b : askedB f.Q x with
          | true => rfl
          | false => exact (hc ⟨a, b⟩).elim
      (simp -dsimp (disch := first | omega | (simp only [h, h2, hx, hb, LR] <;> omega) | fail) only [push_cast, h, h2, hx, hb, simprocAttr, -Nat.reduceSubDiff]) <;> (repeat (refine (aw_draw (by kernel_rfl)).2 ?_; simp -dsimp (disch := first | omega | (simp only [h, h2, hx, hb, LR] <;> omega) | fail) only [push_cast, h, h2, hx, hb, simprocAttr, -Nat.reduceSubDiff]))
      refine ih (i + 1) _ (by omega) ⟨h, hq⟩ ?_
      simp -dsimp (disch := first | omega | (simp only [wr_id, LR] <;> omega) | fail) only [push_cast, wr_id, simprocAttr, -Nat.reduceSubDiff]
end Go.Proofs.YtkkmgjhfjhcdmaaGreatDoor.Mx

/- What a store lacks. -/
namespace Go.Proofs.YtkkmgjhfjhcdmaaGreatDoor.Mx
set_option linter.all false
open Go Go.RowKit Go.Proofs
set_option linter.unusedSimpArgs false
def E85 : Env := { T := T0, kp := look [(0, [0, 1]), (1, [1, 2]), (2, [1, 2, 5]), (3, [5]), (4, [1, 2, 5]), (5, [1, 2, 5, 6, 7]), (6, [1, 5]), (7, [2, 5, 6]), (8, [2, 5, 6, 8]), (9, [2, 5, 6, 8]), (10, [2, 5, 6, 8]), (11, [2, 5, 6, 8]), (12, [5])], dp := look2 [(10, [[], [], [1], [], [1, 2, 3], [1, 2, 3, 4], [0, 1, 2, 3, 4, 5], [0, 1, 2, 3, 4, 5, 6], [0, 1, 2, 3, 4, 5, 6, 7], [0, 1, 2, 3, 4, 5, 6, 7, 8], [0, 1, 2, 3, 4, 5, 6, 7, 8], [0, 1, 2, 3, 4, 5, 6, 7, 8, 10], [0, 1, 2, 3, 4, 5, 6, 7, 8], [0, 1, 2, 3, 4, 5, 6, 7, 8, 10, 11, 12], [0, 1, 2, 3, 4, 5, 6, 7, 8, 10, 11, 12, 13], [0, 1, 2, 3, 4, 5, 6, 7, 8, 9, 10, 11, 12, 13, 14], [0, 1, 2, 3, 4, 5, 6, 7, 8, 9, 10, 11, 12, 13, 14, 15], [0, 1, 2, 3, 4, 5, 6, 7, 8, 9, 10, 11, 12, 13, 14, 15, 16]])] }
attribute [local push_cast] E85
set_option maxRecDepth 20000 in
set_option maxHeartbeats 1000000 in
theorem specLacks (s : Store) (n : Str) (hs : okStore s) : Does Tryz.prog 85 [.ag (storeC false s), .sc (.string n)] (.sl true 1 ((lacksF s n).map strR), []) := by
  refine does_of (E := E85) (rs := [.tmp 4]) (lent := []) tOk rfl Tryz.func85 rfl (by decide) rfl rfl (Nat.le_of_ble_eq_true rfl) (Nat.le_of_ble_eq_true rfl) ?_
  obtain ⟨M, hM⟩ : ∃ M, M = lacksF s n := ⟨_, rfl⟩
  rw [← hM]
  unfold lacksF at hM
  (simp -dsimp (disch := first | omega | (simp only [LR] <;> omega) | fail) only [push_cast, simprocAttr, -Nat.reduceSubDiff]) <;> (repeat (refine (aw_draw (by kernel_rfl)).2 ?_; simp -dsimp (disch := first | omega | (simp only [LR] <;> omega) | fail) only [push_cast, simprocAttr, -Nat.reduceSubDiff]))
  refine callC (specValidStore s hs) ?_
  cases hv : validSt s with
  | false =>
    rw [if_pos (.inl hv)] at hM
    subst hM
    (simp -dsimp (disch := first | omega | (simp only [LR] <;> omega) | fail) only [push_cast, simprocAttr, -Nat.reduceSubDiff]) <;> (repeat (refine (aw_draw (by kernel_rfl)).2 ?_; simp -dsimp (disch := first | omega | (simp only [LR] <;> omega) | fail) only [push_cast, simprocAttr, -Nat.reduceSubDiff]))
  | true =>
  by_cases hn : (n.size : Int) = s.w
  rotate_left
  · rw [if_pos (.inr hn)] at hM
    subst hM
    (simp -dsimp (disch := first | omega | (simp only [hn, LR] <;> omega) | fail) only [push_cast, hn, simprocAttr, -Nat.reduceSubDiff]) <;> (repeat (refine (aw_draw (by kernel_rfl)).2 ?_; simp -dsimp (disch := first | omega | (simp only [hn, LR] <;> omega) | fail) only [push_cast, hn, simprocAttr, -Nat.reduceSubDiff]))
  rw [if_neg (by rintro (q | q); rw [hv] at q; cases q; exact q hn)] at hM
  (simp -dsimp (disch := first | omega | (simp only [hn, LR] <;> omega) | fail) only [push_cast, hn, simprocAttr, -Nat.reduceSubDiff]) <;> (repeat (refine (aw_draw (by kernel_rfl)).2 ?_; simp -dsimp (disch := first | omega | (simp only [hn, LR] <;> omega) | fail) only [push_cast, hn, simprocAttr, -Nat.reduceSubDiff]))
  refine callC (l4List s n hs) ?_
  have hlo := list_ok (s := s) (n := n)
  generalize listF s n = R at *
  obtain ⟨l, b⟩ := R
  simp only at hM hlo ⊢
  cases b with
  | false =>
    rw [if_pos rfl] at hM
    subst hM
    (simp -dsimp (disch := first | omega | (simp only [LR] <;> omega) | fail) only [push_cast, simprocAttr, -Nat.reduceSubDiff]) <;> (repeat (refine (aw_draw (by kernel_rfl)).2 ?_; simp -dsimp (disch := first | omega | (simp only [LR] <;> omega) | fail) only [push_cast, simprocAttr, -Nat.reduceSubDiff]))
  | true =>
  rw [if_neg (by simp)] at hM
  have hl := hlo.1
  (simp -dsimp (disch := first | omega | (simp only [LR] <;> omega) | fail) only [push_cast, simprocAttr, -Nat.reduceSubDiff]) <;> (repeat (refine (aw_draw (by kernel_rfl)).2 ?_; simp -dsimp (disch := first | omega | (simp only [LR] <;> omega) | fail) only [push_cast, simprocAttr, -Nat.reduceSubDiff]))
  refine loop_ind (α := Nat × List Str) (fun q => q.1 ≤ l.S.length ∧ q.2.length ≤ q.1 ∧ lackL s.w s.I q.2 (l.S.drop q.1) = M)
    (fun q => ⟨[(2, .pt 1 0 0), (5, .ow 2 0 q.2.length), (6, .pt 3 0 0), (8, .sc (.int .i64 q.1))], [(1, .bx (storeC false s)), (2, .ar 1 0 (q.2.map strR)), (3, .bx [.sc (.int .i64 l.sz), .ow 4 0 l.S.length]), (4, .ar 1 0 (l.S.map strR))], 5⟩) (fun q => l.S.length - q.1) (0, []) ⟨Nat.zero_le _, Nat.le_refl _, by rw [hM]; rfl⟩ ?_ ?_
  · simp -dsimp (disch := first | omega | (simp only [LR] <;> omega) | fail) only [push_cast, simprocAttr, -Nat.reduceSubDiff]
  rintro ⟨j, acc⟩ ⟨hj, ha, hy⟩ ih
  replace hj : j ≤ l.S.length := hj
  replace ha : acc.length ≤ j := ha
  replace hy : lackL s.w s.I acc (l.S.drop j) = M := hy
  by_cases h : j < l.S.length
  · obtain ⟨x, hx⟩ := ex_get h
    rw [drop_step hx, lackL] at hy
    (simp -dsimp (disch := first | omega | (simp only [h, hx, LR] <;> omega) | fail) only [push_cast, h, hx, simprocAttr, -Nat.reduceSubDiff]) <;> (repeat (refine (aw_draw (by kernel_rfl)).2 ?_; simp -dsimp (disch := first | omega | (simp only [h, hx, LR] <;> omega) | fail) only [push_cast, h, hx, simprocAttr, -Nat.reduceSubDiff]))
    refine callC (l4At s x hs) ?_
    by_cases e1 : atI s.w x s.I < 0
    rotate_left
    · rw [if_neg (fun q => e1 q.1)] at hy
      (simp -dsimp (disch := first | omega | (simp only [h, hx, e1, LR] <;> omega) | fail) only [push_cast, h, hx, e1, simprocAttr, -Nat.reduceSubDiff]) <;> (repeat (refine (aw_draw (by kernel_rfl)).2 ?_; simp -dsimp (disch := first | omega | (simp only [h, hx, e1, LR] <;> omega) | fail) only [push_cast, h, hx, e1, simprocAttr, -Nat.reduceSubDiff]))
      refine ih (j + 1, acc) _ (by show l.S.length - (j + 1) < l.S.length - j; omega) ⟨h, by show acc.length ≤ j + 1; omega, hy⟩ ?_
      simp -dsimp (disch := first | omega | (simp only [wr_id, LR] <;> omega) | fail) only [push_cast, wr_id, simprocAttr, -Nat.reduceSubDiff]
    (simp -dsimp (disch := first | omega | (simp only [h, hx, e1, LR] <;> omega) | fail) only [push_cast, h, hx, e1, simprocAttr, -Nat.reduceSubDiff]) <;> (repeat (refine (aw_draw (by kernel_rfl)).2 ?_; simp -dsimp (disch := first | omega | (simp only [h, hx, e1, LR] <;> omega) | fail) only [push_cast, h, hx, e1, simprocAttr, -Nat.reduceSubDiff]))
    refine callC (l2In acc x (by omega)) ?_
    cases e2 : inL acc x with
    | true =>
      rw [if_neg (by rintro ⟨_, q⟩; rw [e2] at q; cases q)] at hy
      (simp -dsimp (disch := first | omega | (simp only [h, hx, e1, LR] <;> omega) | fail) only [push_cast, h, hx, e1, simprocAttr, -Nat.reduceSubDiff]) <;> (repeat (refine (aw_draw (by kernel_rfl)).2 ?_; simp -dsimp (disch := first | omega | (simp only [h, hx, e1, LR] <;> omega) | fail) only [push_cast, h, hx, e1, simprocAttr, -Nat.reduceSubDiff]))
      refine ih (j + 1, acc) _ (by show l.S.length - (j + 1) < l.S.length - j; omega) ⟨h, by show acc.length ≤ j + 1; omega, hy⟩ ?_
      simp -dsimp (disch := first | omega | (simp only [wr_id, LR] <;> omega) | fail) only [push_cast, wr_id, simprocAttr, -Nat.reduceSubDiff]
    | false =>
      rw [if_pos ⟨e1, e2⟩] at hy
      (simp -dsimp (disch := first | omega | (simp only [h, hx, e1, LR] <;> omega) | fail) only [push_cast, h, hx, e1, simprocAttr, -Nat.reduceSubDiff]) <;> (repeat (refine (aw_draw (by kernel_rfl)).2 ?_; simp -dsimp (disch := first | omega | (simp only [h, hx, e1, LR] <;> omega) | fail) only [push_cast, h, hx, e1, simprocAttr, -Nat.reduceSubDiff]))
      refine ih (j + 1, acc ++ [x]) _ (by show l.S.length - (j + 1) < l.S.length - j; omega) ⟨h, by simp only [List.length_append, List.length_cons, List.length_nil]; omega, hy⟩ ?_
      simp -dsimp (disch := first | omega | (simp only [wr_id, List.map_append, List.length_append, List.length_cons, List.length_nil, LR] <;> omega) | fail) only [push_cast, wr_id, List.map_append, List.length_append, List.length_cons, List.length_nil, simprocAttr, -Nat.reduceSubDiff]
  · rw [List.drop_eq_nil_of_le (by omega), lackL] at hy
    subst hy
    (simp -dsimp (disch := first | omega | (simp only [h, LR] <;> omega) | fail) only [push_cast, h, simprocAttr, -Nat.reduceSubDiff]) <;> (repeat (refine (aw_draw (by kernel_rfl)).2 ?_; simp -dsimp (disch := first | omega | (simp only [h, LR] <;> omega) | fail) only [push_cast, h, simprocAttr, -Nat.reduceSubDiff]))
def E41 : Env := { T := T0, kp := look [(0, [0, 1]), (1, [1, 2]), (2, []), (3, [1, 2]), (4, [1, 2, 5]), (5, [1]), (6, [1, 2, 5]), (7, [1, 2, 6, 7]), (8, [1]), (9, [2, 6]), (10, [2, 6, 8]), (11, [2, 6, 8, 49, 50, 51]), (12, [2, 6, 8, 49, 50, 51]), (13, [2, 6, 8, 10, 49, 50, 51]), (14, [2, 6, 8, 49, 50, 51]), (15, [6, 8]), (16, [6, 8, 11]), (17, [8, 11, 63, 64, 65]), (18, [8, 11, 63, 64, 65]), (19, [8, 11, 13, 63, 64, 65]), (20, [8, 11, 13, 63, 64, 65]), (21, [8, 11, 13, 63, 64, 65]), (22, [8, 11, 63, 64, 65]), (23, [11])], dp := look2 [(6, [[], [0], [], [0, 1, 2], [0, 1, 2, 3], [0, 1, 2, 3, 4], [], [6], [0, 1, 2, 3, 4, 5, 6, 7], [0, 1, 2, 3, 4, 5, 6, 7, 8], [0, 1, 2, 3, 4, 5, 6, 7, 8, 9], [0, 1, 2, 3, 4, 5, 6, 7, 8, 9], [], [0, 1, 2, 3, 4, 5, 6, 7, 8, 9, 10, 12], [0, 1, 2, 3, 4, 5, 6, 7, 8, 9, 10, 11, 12, 13]])] }
attribute [local push_cast] E41
set_option maxRecDepth 20000 in
set_option maxHeartbeats 1000000 in
theorem implLacks (s : Store) (n : Str) (hs : okStore s) : Does Tryz.prog 41 [.ag (storeC false s), .sc (.string n)] (.sl true 1 ((lacksF s n).map strR), []) := by
  refine does_of (E := E41) (rs := [.tmp 4]) (lent := []) tOk rfl Tryz.func41 rfl (by decide) rfl rfl (Nat.le_of_ble_eq_true rfl) (Nat.le_of_ble_eq_true rfl) ?_
  obtain ⟨M, hM⟩ : ∃ M, M = lacksF s n := ⟨_, rfl⟩
  rw [← hM]
  unfold lacksF at hM
  have hI := hs.1.1
  (simp -dsimp (disch := first | omega | (simp only [LR] <;> omega) | fail) only [push_cast, simprocAttr, -Nat.reduceSubDiff]) <;> (repeat (refine (aw_draw (by kernel_rfl)).2 ?_; simp -dsimp (disch := first | omega | (simp only [LR] <;> omega) | fail) only [push_cast, simprocAttr, -Nat.reduceSubDiff]))
  refine callC (implValidStore s hs) ?_
  cases hv : validSt s with
  | false =>
    rw [if_pos (.inl hv)] at hM
    subst hM
    (simp -dsimp (disch := first | omega | (simp only [LR] <;> omega) | fail) only [push_cast, simprocAttr, -Nat.reduceSubDiff]) <;> (repeat (refine (aw_draw (by kernel_rfl)).2 ?_; simp -dsimp (disch := first | omega | (simp only [LR] <;> omega) | fail) only [push_cast, simprocAttr, -Nat.reduceSubDiff]))
  | true =>
  by_cases hn : (n.size : Int) = s.w
  rotate_left
  · rw [if_pos (.inr hn)] at hM
    subst hM
    (simp -dsimp (disch := first | omega | (simp only [hn, LR] <;> omega) | fail) only [push_cast, hn, simprocAttr, -Nat.reduceSubDiff]) <;> (repeat (refine (aw_draw (by kernel_rfl)).2 ?_; simp -dsimp (disch := first | omega | (simp only [hn, LR] <;> omega) | fail) only [push_cast, hn, simprocAttr, -Nat.reduceSubDiff]))
  rw [if_neg (by rintro (q | q); rw [hv] at q; cases q; exact q hn)] at hM
  (simp -dsimp (disch := first | omega | (simp only [hn, LR] <;> omega) | fail) only [push_cast, hn, simprocAttr, -Nat.reduceSubDiff]) <;> (repeat (refine (aw_draw (by kernel_rfl)).2 ?_; simp -dsimp (disch := first | omega | (simp only [hn, LR] <;> omega) | fail) only [push_cast, hn, simprocAttr, -Nat.reduceSubDiff]))
  refine callC (find s n hs) ?_
  have hlo := list_ok (s := s) (n := n)
  by_cases hat : atI s.w n s.I < 0
  · have hf : listF s n = (⟨0, []⟩, false) := by unfold listF; rw [if_pos hat]
    rw [hf, if_pos rfl] at hM
    subst hM
    (simp -dsimp (disch := first | omega | (simp only [hat, LR] <;> omega) | fail) only [push_cast, hat, simprocAttr, -Nat.reduceSubDiff]) <;> (repeat (refine (aw_draw (by kernel_rfl)).2 ?_; simp -dsimp (disch := first | omega | (simp only [hat, LR] <;> omega) | fail) only [push_cast, hat, simprocAttr, -Nat.reduceSubDiff]))
  obtain ⟨i0, x0, h1, h2, _⟩ := at_get (w := s.w) (n := n) (I := s.I) (by omega)
  have hxt : x0.t.size ≤ 2097152 := hs.1.2 x0 (List.mem_of_getElem? h2)
  have hil := (List.getElem?_eq_some_iff.1 h2).1
  have hf : listF s n = readL x0.t s.w := by
    unfold listF
    rw [if_neg hat, h1, Int.toNat_natCast, h2]
  rw [h1]
  (simp -dsimp (disch := first | omega | (simp only [h2, LR] <;> omega) | fail) only [push_cast, h2, simprocAttr, -Nat.reduceSubDiff]) <;> (repeat (refine (aw_draw (by kernel_rfl)).2 ?_; simp -dsimp (disch := first | omega | (simp only [h2, LR] <;> omega) | fail) only [push_cast, h2, simprocAttr, -Nat.reduceSubDiff]))
  refine callC (implReadList x0.t s.w (by omega)) ?_
  rw [← hf]
  generalize listF s n = R at *
  obtain ⟨l, b⟩ := R
  simp only at hM hlo ⊢
  cases b with
  | false =>
    rw [if_pos rfl] at hM
    subst hM
    (simp -dsimp (disch := first | omega | (simp only [LR] <;> omega) | fail) only [push_cast, simprocAttr, -Nat.reduceSubDiff]) <;> (repeat (refine (aw_draw (by kernel_rfl)).2 ?_; simp -dsimp (disch := first | omega | (simp only [LR] <;> omega) | fail) only [push_cast, simprocAttr, -Nat.reduceSubDiff]))
  | true =>
  rw [if_neg (by simp)] at hM
  have hl := hlo.1
  (simp -dsimp (disch := first | omega | (simp only [LR] <;> omega) | fail) only [push_cast, simprocAttr, -Nat.reduceSubDiff]) <;> (repeat (refine (aw_draw (by kernel_rfl)).2 ?_; simp -dsimp (disch := first | omega | (simp only [LR] <;> omega) | fail) only [push_cast, simprocAttr, -Nat.reduceSubDiff]))
  refine loop_ind (α := Nat) (fun i => i ≤ s.I.length)
    (fun i => ⟨[(2, .pt 1 0 0), (6, .pt 2 0 0), (8, .mv 4), (49, .sl false 2 (s.I.map (itemC false))), (50, .sc (.int .i64 s.I.length)), (51, .sc (.int .i64 i))], [(1, .bx (storeC false s)), (2, .bx [.sc (.int .i64 l.sz), .ow 3 0 l.S.length]), (3, .ar 1 0 (l.S.map strR)), (4, .mp 0 (mset ((s.I.take i).map fun y => sumS y.t s.w)))], 5⟩) (fun i => s.I.length - i) 0 (Nat.zero_le _) ?_ ?_
  · simp -dsimp (disch := first | omega | (simp only [mset, List.take_zero, List.foldl_nil, List.map_nil, LR] <;> omega) | fail) only [push_cast, mset, List.take_zero, List.foldl_nil, List.map_nil, simprocAttr, -Nat.reduceSubDiff]
  intro i hi ih
  by_cases h : i < s.I.length
  · obtain ⟨y, hy⟩ := ex_get h
    have hyt : y.t.size ≤ 2097152 := hs.1.2 y (List.mem_of_getElem? hy)
    have hk := mok_kok (mset_mok ((s.I.take i).map fun y => sumS y.t s.w))
    have hst : mset ((s.I.take (i + 1)).map fun y => sumS y.t s.w) = kset (mset ((s.I.take i).map fun y => sumS y.t s.w)) (.string (sumS y.t s.w)) (.bool true) := by
      rw [take_step hy, List.map_append]; exact mset_app _ _
    generalize mset ((s.I.take i).map fun y => sumS y.t s.w) = E at *
    (simp -dsimp (disch := first | omega | (simp only [h, hy, LR] <;> omega) | fail) only [push_cast, h, hy, simprocAttr, -Nat.reduceSubDiff]) <;> (repeat (refine (aw_draw (by kernel_rfl)).2 ?_; simp -dsimp (disch := first | omega | (simp only [h, hy, LR] <;> omega) | fail) only [push_cast, h, hy, simprocAttr, -Nat.reduceSubDiff]))
    refine callC (implSum y.t s.w (by omega)) ?_
    (simp -dsimp (disch := first | omega | (simp only [h, hy, pMapSet, hk.1, kkey, LR] <;> omega) | fail) only [push_cast, h, hy, pMapSet, hk.1, kkey, simprocAttr, -Nat.reduceSubDiff]) <;> (repeat (refine (aw_draw (by kernel_rfl)).2 ?_; simp -dsimp (disch := first | omega | (simp only [h, hy, pMapSet, hk.1, kkey, LR] <;> omega) | fail) only [push_cast, h, hy, pMapSet, hk.1, kkey, simprocAttr, -Nat.reduceSubDiff]))
    refine ih (i + 1) _ (by omega) h ?_
    rw [hst]
    simp -dsimp (disch := first | omega | (simp only [wr_id, LR] <;> omega) | fail) only [push_cast, wr_id, simprocAttr, -Nat.reduceSubDiff]
  rw [show s.I.take i = s.I from List.take_of_length_le (by omega)]
  clear ih
  obtain ⟨Z, hZ⟩ : ∃ Z, Z = s.I.map fun y => sumS y.t s.w := ⟨_, rfl⟩
  rw [← hZ]
  (simp -dsimp (disch := first | omega | (simp only [h, LR] <;> omega) | fail) only [push_cast, h, simprocAttr, -Nat.reduceSubDiff]) <;> (repeat (refine (aw_draw (by kernel_rfl)).2 ?_; simp -dsimp (disch := first | omega | (simp only [h, LR] <;> omega) | fail) only [push_cast, h, simprocAttr, -Nat.reduceSubDiff]))
  refine loop_ind (α := Nat × List Str) (fun q => q.1 ≤ l.S.length ∧ q.2.length ≤ q.1 ∧ lackL s.w s.I q.2 (l.S.drop q.1) = M)
    (fun q => ⟨[(8, .mv 1), (11, .ow 2 0 q.2.length), (63, .ow 3 0 l.S.length), (64, .sc (.int .i64 l.S.length)), (65, .sc (.int .i64 q.1))], [(1, .mp 0 (mset (Z ++ q.2))), (2, .ar 1 0 (q.2.map strR)), (3, .ar 1 0 (l.S.map strR))], 4⟩) (fun q => l.S.length - q.1) (0, []) ⟨Nat.zero_le _, Nat.le_refl _, by rw [hM]; rfl⟩ ?_ ?_
  · simp -dsimp (disch := first | omega | (simp only [List.append_nil, LR] <;> omega) | fail) only [push_cast, List.append_nil, simprocAttr, -Nat.reduceSubDiff]
  rintro ⟨j, acc⟩ ⟨hj, ha, hy⟩ ih
  replace hj : j ≤ l.S.length := hj
  replace ha : acc.length ≤ j := ha
  replace hy : lackL s.w s.I acc (l.S.drop j) = M := hy
  have hk := mok_kok (mset_mok (Z ++ acc))
  have hk2 := hk.2
  simp only [plain] at hk2
  by_cases h7 : j < l.S.length
  · obtain ⟨x, hx⟩ := ex_get h7
    rw [drop_step hx, lackL] at hy
    have hat2 : atI s.w x s.I < 0 ↔ inL Z x = false := by rw [hZ]; exact at_neg
    cases e : inL (Z ++ acc) x with
    | true =>
      have hc : ¬ (atI s.w x s.I < 0 ∧ inL acc x = false) := by
        rintro ⟨q1, q2⟩
        rw [inL_app, hat2.1 q1, q2] at e; cases e
      rw [if_neg hc] at hy
      (simp -dsimp (disch := first | omega | (simp only [h7, hx, pLookup, entries, hk.1, hk2, kkey, mset_get, e, LR] <;> omega) | fail) only [push_cast, h7, hx, pLookup, entries, hk.1, hk2, kkey, mset_get, e, simprocAttr, -Nat.reduceSubDiff]) <;> (repeat (refine (aw_draw (by kernel_rfl)).2 ?_; simp -dsimp (disch := first | omega | (simp only [h7, hx, pLookup, entries, hk.1, hk2, kkey, mset_get, e, LR] <;> omega) | fail) only [push_cast, h7, hx, pLookup, entries, hk.1, hk2, kkey, mset_get, e, simprocAttr, -Nat.reduceSubDiff]))
      refine ih (j + 1, acc) _ (by show l.S.length - (j + 1) < l.S.length - j; omega) ⟨h7, by show acc.length ≤ j + 1; omega, hy⟩ ?_
      simp -dsimp (disch := first | omega | (simp only [wr_id, LR] <;> omega) | fail) only [push_cast, wr_id, simprocAttr, -Nat.reduceSubDiff]
    | false =>
      have hc : atI s.w x s.I < 0 ∧ inL acc x = false := by
        rw [inL_app, Bool.or_eq_false_iff] at e
        exact ⟨hat2.2 e.1, e.2⟩
      rw [if_pos hc] at hy
      have hst := mset_app (Z ++ acc) x
      rw [List.append_assoc] at hst
      (simp -dsimp (disch := first | omega | (simp only [h7, hx, pLookup, entries, hk.1, hk2, kkey, mset_get, e, pMapSet, LR] <;> omega) | fail) only [push_cast, h7, hx, pLookup, entries, hk.1, hk2, kkey, mset_get, e, pMapSet, simprocAttr, -Nat.reduceSubDiff]) <;> (repeat (refine (aw_draw (by kernel_rfl)).2 ?_; simp -dsimp (disch := first | omega | (simp only [h7, hx, pLookup, entries, hk.1, hk2, kkey, mset_get, e, pMapSet, LR] <;> omega) | fail) only [push_cast, h7, hx, pLookup, entries, hk.1, hk2, kkey, mset_get, e, pMapSet, simprocAttr, -Nat.reduceSubDiff]))
      refine ih (j + 1, acc ++ [x]) _ (by show l.S.length - (j + 1) < l.S.length - j; omega) ⟨h7, by simp only [List.length_append, List.length_cons, List.length_nil]; omega, hy⟩ ?_
      simp -dsimp (disch := first | omega | (simp only [wr_id, List.map_append, List.length_append, List.length_cons, List.length_nil, hst, LR] <;> omega) | fail) only [push_cast, wr_id, List.map_append, List.length_append, List.length_cons, List.length_nil, hst, simprocAttr, -Nat.reduceSubDiff]
  · rw [List.drop_eq_nil_of_le (by omega), lackL] at hy
    subst hy
    (simp -dsimp (disch := first | omega | (simp only [h7, LR] <;> omega) | fail) only [push_cast, h7, simprocAttr, -Nat.reduceSubDiff]) <;> (repeat (refine (aw_draw (by kernel_rfl)).2 ?_; simp -dsimp (disch := first | omega | (simp only [h7, LR] <;> omega) | fail) only [push_cast, h7, simprocAttr, -Nat.reduceSubDiff]))
end Go.Proofs.YtkkmgjhfjhcdmaaGreatDoor.Mx

/- A fetch ticks: pure, more. -/
namespace Go.Proofs.YtkkmgjhfjhcdmaaGreatDoor.Mx
set_option linter.all false
open Go Go.RowKit
theorem lacksOk (s : Store) (n : Str) (hn : n.size ≤ 2097152) : okL okStr (lacksF s n) := by
  have hl := list_ok (s := s) (n := n)
  unfold lacksF
  split
  · exact ⟨Nat.zero_le _, fun a h => by cases h⟩
  · split
    · exact ⟨by simp, fun a h => by rw [List.mem_singleton.1 h]; exact hn⟩
    · have h2 := lackL_len s.w s.I (listF s n).1.S []
      have h3 : ∀ (L acc : List Str), (∀ x ∈ acc, x.size ≤ 8) → (∀ x ∈ L, x.size ≤ 8) → ∀ x ∈ lackL s.w s.I acc L, x.size ≤ 8 := by
        intro L
        induction L with
        | nil => intro acc h _; exact h
        | cons x r ih =>
          intro acc h h2
          rw [lackL]
          refine ih _ ?_ (fun y hy => h2 y (by simp [hy]))
          split
          · intro y hy
            rcases List.mem_append.1 hy with hy | hy
            · exact h y hy
            · rw [List.mem_singleton.1 hy]; exact h2 x (by simp)
          · exact h
      rw [List.length_nil] at h2
      refine ⟨by omega, fun a ha => ?_⟩
      have := h3 _ [] (by simp) hl.2 a ha
      show a.size ≤ 2097152
      omega
def decT (Q : List Peer) (i : Nat) : List Peer := (Q.take i).map decP ++ Q.drop i
theorem decT_len (Q : List Peer) (i : Nat) : (decT Q i).length = Q.length := by unfold decT; simp; omega
theorem decT_zero (Q : List Peer) : decT Q 0 = Q := by unfold decT; simp
theorem decT_all (Q : List Peer) : decT Q Q.length = Q.map decP := by unfold decT; simp
theorem decT_get {Q : List Peer} {i : Nat} {p : Peer} (h : Q[i]? = some p) : (decT Q i)[i]? = some p := by
  have hi := (List.getElem?_eq_some_iff.1 h).1
  unfold decT
  rw [List.getElem?_append_right (by simp; omega)]
  simp only [List.length_map, List.length_take, Nat.min_eq_left (Nat.le_of_lt hi), Nat.sub_self, List.getElem?_drop, Nat.add_zero]
  exact h
theorem decT_step {Q : List Peer} {i : Nat} {p : Peer} (h : Q[i]? = some p) : (decT Q i).set i (decP p) = decT Q (i + 1) := by
  have hi := (List.getElem?_eq_some_iff.1 h).1
  unfold decT
  rw [List.set_append_right _ _ (by simp; omega)]
  rw [take_step h, List.map_append, drop_step h]
  simp only [List.length_map, List.length_take, Nat.min_eq_left (Nat.le_of_lt hi), Nat.sub_self, List.set_cons_zero, List.map_cons, List.map_nil, List.append_assoc, List.cons_append, List.nil_append]
theorem decT_same {Q : List Peer} {i : Nat} {p : Peer} (h : Q[i]? = some p) (e : decP p = p) : decT Q i = decT Q (i + 1) := by
  rw [← decT_step h, e]
  refine List.ext_getElem? fun k => ?_
  rw [List.getElem?_set]
  have := decT_get h
  have hi := (List.getElem?_eq_some_iff.1 this).1
  split
  · rename_i q; subst q; exact this
  · rfl
theorem decP_N (p : Peer) : (decP p).N = p.N := by unfold decP; split <;> rfl
theorem decP_ok {p : Peer} (h : okPeer p) : okPeer (decP p) := by
  unfold decP
  split
  · refine ⟨?_, h.2⟩
    show okStr (if p.wait - 1 = 0 then ⟨#[]⟩ else p.ask)
    split
    · exact Nat.zero_le _
    · exact h.1
  · exact h
theorem decQ_ok {Q : List Peer} (h : okL okPeer Q) : okL okPeer (Q.map decP) := ⟨by rw [List.length_map]; exact h.1, fun a ha => by
  obtain ⟨p, hp, rfl⟩ := List.mem_map.1 ha
  exact decP_ok (h.2 p hp)⟩
theorem pick_ok {Q : List Peer} {p : Peer} : ∀ {L : List Str}, (∀ x ∈ L, okStr x) → okStr (pickL Q p L)
  | [], _ => Nat.zero_le _
  | x :: r, h => by
    rw [pickL]
    split
    · exact h x (by simp)
    · exact pick_ok fun y hy => h y (by simp [hy])
theorem ask1_ok {now : Int} {L : List Str} {q : List Peer × List Message} {i : Nat} (h : okL okPeer q.1) (hL : ∀ x ∈ L, okStr x) : okL okPeer (ask1 now L q i).1 := by
  refine ⟨by rw [ask1_len]; exact h.1, ?_⟩
  unfold ask1
  split
  · exact h.2
  · rename_i p hp
    split
    · exact h.2
    · intro a ha
      rcases List.mem_or_eq_of_mem_set ha with q | q
      · exact h.2 a q
      · rw [q]
        exact ⟨pick_ok hL, (h.2 p (List.mem_of_getElem? hp)).2⟩
theorem ask1_out {now : Int} {L : List Str} {q : List Peer × List Message} {i : Nat} (h : okL okMessage q.2) (hl : q.2.length ≤ 2097151) (hL : ∀ x ∈ L, okStr x) : okL okMessage (ask1 now L q i).2 ∧ (ask1 now L q i).2.length ≤ q.2.length + 1 := by
  unfold ask1
  split
  · exact ⟨h, by omega⟩
  · rename_i p hp
    split
    · exact ⟨h, by omega⟩
    · refine ⟨⟨by simp; omega, fun a ha => ?_⟩, by simp⟩
      rcases List.mem_append.1 ha with q | q
      · exact h.2 a q
      · rw [List.mem_singleton.1 q]
        exact ⟨pick_ok hL, Nat.zero_le _⟩
theorem runT_go {now : Int} {L : List Str} {S : List Bool} {q : List Peer × List Message} {k : Nat} (h : nextF q.1 S q.1.length = k) : runT now L S q = runT now L (S.set k true) (ask1 now L q k) := by
  rw [runT, dif_pos (by omega), h, Int.toNat_natCast]
theorem runT_end {now : Int} {L : List Str} {S : List Bool} {q : List Peer × List Message} (h : nextF q.1 S q.1.length < 0) : runT now L S q = q := by
  rw [runT, dif_neg (by omega)]
theorem runT_ok (now : Int) {L : List Str} (hL : ∀ x ∈ L, okStr x) : ∀ (n : Nat) (S : List Bool) (q : List Peer × List Message), cntF S ≤ n → okL okPeer q.1 → okL okMessage q.2 → q.2.length + n ≤ 2097152 →
    okL okPeer (runT now L S q).1 ∧ okL okMessage (runT now L S q).2 ∧ (runT now L S q).1.length = q.1.length
  | n, S, q, hn, h1, h2, hl => by
    by_cases h : nextF q.1 S q.1.length < 0
    · rw [runT_end h]; exact ⟨h1, h2, rfl⟩
    · obtain ⟨k, hk⟩ : ∃ k : Nat, nextF q.1 S q.1.length = k := ⟨(nextF q.1 S q.1.length).toNat, by omega⟩
      obtain ⟨p, _, hs, _⟩ := next_free q.1 S q.1.length k hk
      have hc := cnt_set hs
      rw [runT_go hk]
      obtain ⟨o1, o2⟩ := ask1_out (now := now) (L := L) (i := k) h2 (by omega) hL
      match n, hn, hl with
      | 0, hn, hl => omega
      | n + 1, hn, hl =>
        have := runT_ok now hL n (S.set k true) (ask1 now L q k) (by omega) (ask1_ok h1 hL) o1 (by omega)
        rw [ask1_len] at this
        exact this
theorem cnt_new (n : Nat) : cntF (List.replicate n false) = n := by
  unfold cntF
  induction n with
  | zero => rfl
  | succ n ih => rw [List.replicate_succ, List.countP_cons, ih]; rfl
theorem emFok : okFetch emF := ⟨Nat.zero_le _, emS_ok, Nat.zero_le _, fun a h => by cases h⟩
theorem ftick_ok {f : Fetch} (hf : okFetch f) (hq : f.Q.length ≤ 5) : okFetch (ftickF f).1 ∧ okL okMessage (ftickF f).2 := by
  have nil : okL okMessage ([] : List Message) := ⟨Nat.zero_le _, fun a h => by cases h⟩
  unfold ftickF tickF
  split
  · split
    · exact ⟨hf, nil⟩
    · split
      · exact ⟨⟨hf.1, hf.2.1, decQ_ok hf.2.2⟩, nil⟩
      · have := runT_ok (f.now + 1) (L := lacksF f.st f.nm) (lacksOk f.st f.nm hf.1).2 f.Q.length (List.replicate f.Q.length false) (f.Q.map decP, []) (by rw [cnt_new]; exact Nat.le_refl _) (decQ_ok hf.2.2) nil (by simp; omega)
        exact ⟨⟨hf.1, hf.2.1, this.1⟩, this.2.1⟩
  · exact ⟨emFok, nil⟩
theorem now_of {f : Fetch} (hv : validF f = true) : 0 ≤ f.now ∧ f.now ≤ 1000000 ∧ f.Q.length ≤ 5 := by
  unfold validF at hv
  simp only [Bool.and_eq_true, decide_eq_true_eq, inB] at hv
  omega
end Go.Proofs.YtkkmgjhfjhcdmaaGreatDoor.Mx

/- A fetch takes a message: the program. -/
namespace Go.Proofs.YtkkmgjhfjhcdmaaGreatDoor.Mx
set_option linter.all false
open Go Go.RowKit Go.Proofs
set_option linter.unusedSimpArgs false
theorem set_peer (Q : List Peer) (i : Nat) (a b c : Int) (u : Str) (N : List Str) : (Q.map (peerC true)).set i [.sc (.int .i64 a), .sc (.int .i64 b), .sc (.int .i64 c), .sc (.string u), .sl true 1 (N.map strR)] = (Q.set i ⟨a, b, c, u, N⟩).map (peerC true) := by
  rw [List.map_set]; rfl
theorem peer_of {f : Fetch} (hv : validF f = true) {i : Nat} {p : Peer} (hp : f.Q[i]? = some p) : peerB f.st.w f.now p = true := by
  unfold validF at hv
  simp only [Bool.and_eq_true] at hv
  exact List.all_eq_true.1 hv.2 p (List.mem_of_getElem? hp)
theorem peer_up {w now : Int} {p : Peer} (h : peerB w now p = true) : (0 ≤ p.lies ∧ p.lies ≤ 3) ∧ (0 ≤ p.wait ∧ p.wait ≤ 5) ∧ (-1 ≤ p.last ∧ p.last ≤ now) ∧ p.N.length ≤ 376 ∧ askB w p.wait p.ask = true ∧ ascF w none p.N = true := by
  unfold peerB at h
  simp only [Bool.and_eq_true, decide_eq_true_eq] at h
  obtain ⟨⟨⟨⟨⟨h1, h2⟩, h3⟩, h4⟩, h5⟩, h6⟩ := h
  exact ⟨of_decide_eq_true h1, of_decide_eq_true h2, of_decide_eq_true h3, h4, h5, h6⟩
end Go.Proofs.YtkkmgjhfjhcdmaaGreatDoor.Mx

/- A fetch ticks: the reference. -/
namespace Go.Proofs.YtkkmgjhfjhcdmaaGreatDoor.Mx
set_option linter.all false
open Go Go.RowKit Go.Proofs
set_option linter.unusedSimpArgs false
theorem rep_bool (n : Nat) : List.replicate n [AV.sc (.bool false)] = (List.replicate n false).map boolR := by rw [List.map_replicate]; rfl
def E31 : Env := { T := T0, kp := look [(0, [0]), (1, [1, 2]), (2, [1, 2, 4]), (3, [2, 4]), (4, [1, 2, 4]), (5, [1, 2, 4, 5]), (6, [2, 4, 5]), (7, [2, 4, 5]), (8, [2, 4, 5]), (9, [2, 4, 5, 6]), (10, [2, 4, 5, 6]), (11, [2, 4, 5, 6]), (12, [2, 4, 5, 6]), (13, [2, 4, 5, 6]), (14, [2, 4, 5, 6]), (15, [2, 4, 5]), (16, [2, 4, 5]), (17, [2, 4, 5]), (18, [2, 4, 5, 7]), (19, [2, 4, 5, 7, 8]), (20, [2, 4, 5, 7, 8, 9]), (21, [2, 4, 5, 7, 8]), (22, [2, 4, 5, 7, 8, 9]), (23, [2, 4, 5, 7, 8, 9]), (24, [2, 4, 5, 7, 8, 9, 10]), (25, [2, 4, 5, 7, 8, 9, 10]), (26, [2, 4, 5, 7, 8, 9, 10]), (27, [2, 4, 5, 7, 8, 9, 10]), (28, [2, 4, 5, 7, 8, 9, 10]), (29, [2, 4, 5])], dp := look2 [(12, [[], [0], [], [], [3], [], [3, 4, 5], [3, 4, 5, 6], [3, 4, 5, 6, 7], [3, 4, 5, 6, 7, 8], [0, 1, 2, 3, 4, 5, 6, 7, 8, 9], [0, 1, 2, 3, 4, 5, 6, 7, 8, 9, 10], [0, 1, 2, 3, 4, 5, 6, 7, 8, 9, 10, 11]])] }
attribute [local push_cast] E31
set_option maxRecDepth 20000 in
set_option maxHeartbeats 4000000 in
theorem specFetchTick (f : Fetch) (hf : okFetch f) : Does Tryz.prog 31 [.ag (fetchC false f)] (.tu [.ag (fetchC true (ftickF f).1), .sl true 5 ((ftickF f).2.map (messageC true))], []) := by
  obtain ⟨M, hM⟩ : ∃ M, M = (ftickF f).1 := ⟨_, rfl⟩
  obtain ⟨O, hO⟩ : ∃ O, O = (ftickF f).2 := ⟨_, rfl⟩
  rw [← hM, ← hO]
  have hQl := hf.2.2.1
  have hIl := hf.2.1.1.1
  have hPl := hf.2.1.2.1
  unfold ftickF at hM hO
  cases hv : validF f with
  | false =>
    rw [if_neg (by rw [hv]; simp)] at hM hO
    subst hM hO
    refine does_of (E := E31) (rs := [.cell 2 53, .tmp 3]) (lent := []) tOk rfl Tryz.func31 rfl (by decide) rfl rfl (Nat.le_of_ble_eq_true rfl) (Nat.le_of_ble_eq_true rfl) ?_
    (simp -dsimp (disch := first | omega | (simp only [LR] <;> omega) | fail) only [push_cast, simprocAttr, -Nat.reduceSubDiff]) <;> (repeat (refine (aw_draw (by kernel_rfl)).2 ?_; simp -dsimp (disch := first | omega | (simp only [LR] <;> omega) | fail) only [push_cast, simprocAttr, -Nat.reduceSubDiff]))
    refine callC (specValidFetch f hf) ?_
    rw [hv]
    (simp -dsimp (disch := first | omega | (simp only [LR] <;> omega) | fail) only [push_cast, simprocAttr, -Nat.reduceSubDiff]) <;> (repeat (refine (aw_draw (by kernel_rfl)).2 ?_; simp -dsimp (disch := first | omega | (simp only [LR] <;> omega) | fail) only [push_cast, simprocAttr, -Nat.reduceSubDiff]))
    rfl
  | true =>
  rw [if_pos hv] at hM hO
  have hvd := specValidFetch f hf
  rw [hv] at hvd
  unfold tickF at hM hO
  by_cases c1 : 1000000 ≤ f.now
  · rw [if_pos c1] at hM hO
    replace hM := hM.symm
    subst hM hO
    refine does_of (E := E31) (rs := [.cell 2 53, .tmp 3]) (lent := []) tOk rfl Tryz.func31 rfl (by decide) rfl rfl (Nat.le_of_ble_eq_true rfl) (Nat.le_of_ble_eq_true rfl) ?_
    (simp -dsimp (disch := first | omega | (simp only [LR] <;> omega) | fail) only [push_cast, simprocAttr, -Nat.reduceSubDiff]) <;> (repeat (refine (aw_draw (by kernel_rfl)).2 ?_; simp -dsimp (disch := first | omega | (simp only [LR] <;> omega) | fail) only [push_cast, simprocAttr, -Nat.reduceSubDiff]))
    refine callC hvd ?_
    (simp -dsimp (disch := first | omega | (simp only [LR] <;> omega) | fail) only [push_cast, simprocAttr, -Nat.reduceSubDiff]) <;> (repeat (refine (aw_draw (by kernel_rfl)).2 ?_; simp -dsimp (disch := first | omega | (simp only [LR] <;> omega) | fail) only [push_cast, simprocAttr, -Nat.reduceSubDiff]))
    refine callC (l7Copy f hf) ?_
    (simp -dsimp (disch := first | omega | (simp only [c1, LR] <;> omega) | fail) only [push_cast, c1, simprocAttr, -Nat.reduceSubDiff]) <;> (repeat (refine (aw_draw (by kernel_rfl)).2 ?_; simp -dsimp (disch := first | omega | (simp only [c1, LR] <;> omega) | fail) only [push_cast, c1, simprocAttr, -Nat.reduceSubDiff]))
  rw [if_neg c1] at hM hO
  have hnow := now_of hv
  refine does_of (E := E31) (rs := [.cell 2 53, .tmp 3]) (lent := []) tOk rfl Tryz.func31 rfl (by decide) rfl rfl (Nat.le_of_ble_eq_true rfl) (Nat.le_of_ble_eq_true rfl) ?_
  (simp -dsimp (disch := first | omega | (simp only [LR] <;> omega) | fail) only [push_cast, simprocAttr, -Nat.reduceSubDiff]) <;> (repeat (refine (aw_draw (by kernel_rfl)).2 ?_; simp -dsimp (disch := first | omega | (simp only [LR] <;> omega) | fail) only [push_cast, simprocAttr, -Nat.reduceSubDiff]))
  refine callC hvd ?_
  (simp -dsimp (disch := first | omega | (simp only [LR] <;> omega) | fail) only [push_cast, simprocAttr, -Nat.reduceSubDiff]) <;> (repeat (refine (aw_draw (by kernel_rfl)).2 ?_; simp -dsimp (disch := first | omega | (simp only [LR] <;> omega) | fail) only [push_cast, simprocAttr, -Nat.reduceSubDiff]))
  refine callC (l7Copy f hf) ?_
  (simp -dsimp (disch := first | omega | (simp only [c1, LR] <;> omega) | fail) only [push_cast, c1, simprocAttr, -Nat.reduceSubDiff]) <;> (repeat (refine (aw_draw (by kernel_rfl)).2 ?_; simp -dsimp (disch := first | omega | (simp only [c1, LR] <;> omega) | fail) only [push_cast, c1, simprocAttr, -Nat.reduceSubDiff]))
  refine loop_ind (α := Nat) (fun i => i ≤ f.Q.length)
    (fun i => ⟨[(2, .pt 1 0 0), (4, .ow 5 0 0), (5, .pt 6 0 0), (6, .sc (.int .i64 i))],
      [(1, .bx [.sc (.string ⟨#[]⟩), .sc (.int .i64 0), .sc (.bool false), .sc (.int .i64 0), .sc (.int .i64 0), .ow 2 0 0, .ow 3 0 0, .ow 4 0 0]), (2, .ar 2 0 []), (3, .ar 1 0 []), (4, .ar 5 0 []), (5, .ar 5 0 []),
       (6, .bx [.sc (.string f.nm), .sc (.int .i64 (f.now + 1)), .sc (.bool f.full), .sc (.int .i64 f.st.w), .sc (.int .i64 f.st.r), .ow 7 0 f.st.I.length, .ow 8 0 f.st.P.length, .ow 9 0 f.Q.length]), (7, .ar 2 0 (f.st.I.map (itemC true))), (8, .ar 1 0 (f.st.P.map strR)), (9, .ar 5 0 ((decT f.Q i).map (peerC true)))], 10⟩) (fun i => f.Q.length - i) 0 (Nat.zero_le _) ?_ ?_
  · simp -dsimp (disch := first | omega | (simp only [wr_id, decT_zero, LR] <;> omega) | fail) only [push_cast, wr_id, decT_zero, simprocAttr, -Nat.reduceSubDiff]
  intro i hi ih
  by_cases h : i < f.Q.length
  · obtain ⟨p, hp⟩ := ex_get h
    have hD := decT_get hp
    have hl := decT_len f.Q i
    obtain ⟨q1, q2, q3, q4, q5, q6⟩ := peer_up (peer_of hv hp)
    have hN := decT_step hp
    have hS := decT_same hp
    have hl2 := decT_len f.Q (i + 1)
    generalize decT f.Q i = D at *
    by_cases w0 : 0 < p.wait
    rotate_left
    · replace hS := hS (by unfold decP; rw [if_neg w0])
      rw [← hS] at hl2
      (simp -dsimp (disch := first | omega | (simp only [h, hD, w0, LR] <;> omega) | fail) only [push_cast, h, hD, w0, simprocAttr, -Nat.reduceSubDiff]) <;> (repeat (refine (aw_draw (by kernel_rfl)).2 ?_; simp -dsimp (disch := first | omega | (simp only [h, hD, w0, LR] <;> omega) | fail) only [push_cast, h, hD, w0, simprocAttr, -Nat.reduceSubDiff]))
      refine ih (i + 1) _ (by omega) h ?_
      rw [← hS]
      simp -dsimp (disch := first | omega | (simp only [wr_id, LR] <;> omega) | fail) only [push_cast, wr_id, simprocAttr, -Nat.reduceSubDiff]
    clear hS
    by_cases w1 : p.wait - 1 = 0
    · have e : decP p = ⟨p.lies, 0, p.last, ⟨#[]⟩, p.N⟩ := by unfold decP; rw [if_pos w0, if_pos w1, w1]
      rw [e] at hN
      (simp -dsimp (disch := first | omega | (simp only [h, hD, w0, w1, wr_id, List.getElem?_set_self, List.set_set, set_peer, LR] <;> omega) | fail) only [push_cast, h, hD, w0, w1, wr_id, List.getElem?_set_self, List.set_set, set_peer, simprocAttr, -Nat.reduceSubDiff]) <;> (repeat (refine (aw_draw (by kernel_rfl)).2 ?_; simp -dsimp (disch := first | omega | (simp only [h, hD, w0, w1, wr_id, List.getElem?_set_self, List.set_set, set_peer, LR] <;> omega) | fail) only [push_cast, h, hD, w0, w1, wr_id, List.getElem?_set_self, List.set_set, set_peer, simprocAttr, -Nat.reduceSubDiff]))
      refine ih (i + 1) _ (by omega) h ?_
      rw [← hN]
      simp -dsimp (disch := first | omega | (simp only [wr_id, LR] <;> omega) | fail) only [push_cast, wr_id, simprocAttr, -Nat.reduceSubDiff]
    · have e : decP p = ⟨p.lies, p.wait - 1, p.last, p.ask, p.N⟩ := by unfold decP; rw [if_pos w0, if_neg w1]
      rw [e] at hN
      (simp -dsimp (disch := first | omega | (simp only [h, hD, w0, w1, wr_id, List.getElem?_set_self, List.set_set, set_peer, LR] <;> omega) | fail) only [push_cast, h, hD, w0, w1, wr_id, List.getElem?_set_self, List.set_set, set_peer, simprocAttr, -Nat.reduceSubDiff]) <;> (repeat (refine (aw_draw (by kernel_rfl)).2 ?_; simp -dsimp (disch := first | omega | (simp only [h, hD, w0, w1, wr_id, List.getElem?_set_self, List.set_set, set_peer, LR] <;> omega) | fail) only [push_cast, h, hD, w0, w1, wr_id, List.getElem?_set_self, List.set_set, set_peer, simprocAttr, -Nat.reduceSubDiff]))
      refine ih (i + 1) _ (by omega) h ?_
      rw [← hN]
      simp -dsimp (disch := first | omega | (simp only [wr_id, LR] <;> omega) | fail) only [push_cast, wr_id, simprocAttr, -Nat.reduceSubDiff]
  · have hi : i = f.Q.length := by omega
    subst hi
    rw [decT_all]
    have hl : (f.Q.map decP).length = f.Q.length := List.length_map ..
    cases c2 : f.full with
    | true =>
      rw [if_pos c2] at hM hO
      subst hM hO
      (simp -dsimp (disch := first | omega | (simp only [h, c2, LR] <;> omega) | fail) only [push_cast, h, c2, simprocAttr, -Nat.reduceSubDiff]) <;> (repeat (refine (aw_draw (by kernel_rfl)).2 ?_; simp -dsimp (disch := first | omega | (simp only [h, c2, LR] <;> omega) | fail) only [push_cast, h, c2, simprocAttr, -Nat.reduceSubDiff]))
    | false =>
      rw [if_neg (by rw [c2]; simp)] at hM hO
      (simp -dsimp (disch := first | omega | (simp only [h, c2, LR] <;> omega) | fail) only [push_cast, h, c2, simprocAttr, -Nat.reduceSubDiff]) <;> (repeat (refine (aw_draw (by kernel_rfl)).2 ?_; simp -dsimp (disch := first | omega | (simp only [h, c2, LR] <;> omega) | fail) only [push_cast, h, c2, simprocAttr, -Nat.reduceSubDiff]))
      refine callC (specLacks f.st f.nm hf.2.1) ?_
      (simp -dsimp (disch := first | omega | (simp only [h, c2, rep_bool, LR] <;> omega) | fail) only [push_cast, h, c2, rep_bool, simprocAttr, -Nat.reduceSubDiff]) <;> (repeat (refine (aw_draw (by kernel_rfl)).2 ?_; simp -dsimp (disch := first | omega | (simp only [h, c2, rep_bool, LR] <;> omega) | fail) only [push_cast, h, c2, rep_bool, simprocAttr, -Nat.reduceSubDiff]))
      have hLk := lacksOk f.st f.nm hf.1
      obtain ⟨L, hL⟩ : ∃ L, L = lacksF f.st f.nm := ⟨_, rfl⟩
      rw [← hL] at hM hO hLk ⊢
      obtain ⟨R, hR⟩ : ∃ R, R = runT (f.now + 1) L (List.replicate f.Q.length false) (f.Q.map decP, []) := ⟨_, rfl⟩
      rw [← hR] at hM hO
      have hLl := hLk.1
      refine callC (l7Next { f with now := f.now + 1, full := false, Q := f.Q.map decP } (List.replicate f.Q.length false) ⟨hf.1, hf.2.1, decQ_ok hf.2.2⟩ (by simp)) ?_
      (simp -dsimp (disch := first | omega | (simp only [h, c2, rep_bool, LR] <;> omega) | fail) only [push_cast, h, c2, rep_bool, simprocAttr, -Nat.reduceSubDiff]) <;> (repeat (refine (aw_draw (by kernel_rfl)).2 ?_; simp -dsimp (disch := first | omega | (simp only [h, c2, rep_bool, LR] <;> omega) | fail) only [push_cast, h, c2, rep_bool, simprocAttr, -Nat.reduceSubDiff]))
      refine loop_ind (α := List Bool × List Peer × List Message)
        (fun q => q.1.length = f.Q.length ∧ q.2.1.length = f.Q.length ∧ okL okPeer q.2.1 ∧ q.2.2.length + cntF q.1 ≤ 5 ∧ runT (f.now + 1) L q.1 q.2 = R)
        (fun q => ⟨[(2, .pt 1 0 0), (4, .ow 5 0 q.2.2.length), (5, .pt 6 0 0), (7, .ow 10 0 L.length), (8, .ow 11 0 q.1.length), (9, .sc (.int .i64 (nextF q.2.1 q.1 q.2.1.length)))],
          [(1, .bx [.sc (.string ⟨#[]⟩), .sc (.int .i64 0), .sc (.bool false), .sc (.int .i64 0), .sc (.int .i64 0), .ow 2 0 0, .ow 3 0 0, .ow 4 0 0]), (2, .ar 2 0 []), (3, .ar 1 0 []), (4, .ar 5 0 []), (5, .ar 5 0 (q.2.2.map (messageC true))),
           (6, .bx [.sc (.string f.nm), .sc (.int .i64 (f.now + 1)), .sc (.bool false), .sc (.int .i64 f.st.w), .sc (.int .i64 f.st.r), .ow 7 0 f.st.I.length, .ow 8 0 f.st.P.length, .ow 9 0 q.2.1.length]), (7, .ar 2 0 (f.st.I.map (itemC true))), (8, .ar 1 0 (f.st.P.map strR)), (9, .ar 5 0 (q.2.1.map (peerC true))),
           (10, .ar 1 0 (L.map strR)), (11, .ar 1 0 (q.1.map boolR))], 12⟩) (fun q => cntF q.1) (List.replicate f.Q.length false, f.Q.map decP, []) ⟨by simp, by simp, decQ_ok hf.2.2, by rw [cnt_new]; simp; omega, hR.symm⟩ ?_ ?_
      · simp -dsimp (disch := first | omega | (simp only [List.length_replicate, LR] <;> omega) | fail) only [push_cast, List.length_replicate, simprocAttr, -Nat.reduceSubDiff]
      rintro ⟨S, Q, W⟩ ⟨h1, h2, h3, h4, h5⟩ ih
      simp only at h1 h2 h3 h4 h5
      have hr := next_rng Q S Q.length
      obtain ⟨b, hb⟩ : ∃ b, b = nextF Q S Q.length := ⟨_, rfl⟩
      by_cases h0 : nextF Q S Q.length < 0
      · rw [runT_end h0] at h5
        subst h5
        subst hM hO
        rw [← hb] at h0 ⊢
        (simp -dsimp (disch := first | omega | (simp only [h0, c2, LR] <;> omega) | fail) only [push_cast, h0, c2, simprocAttr, -Nat.reduceSubDiff]) <;> (repeat (refine (aw_draw (by kernel_rfl)).2 ?_; simp -dsimp (disch := first | omega | (simp only [h0, c2, LR] <;> omega) | fail) only [push_cast, h0, c2, simprocAttr, -Nat.reduceSubDiff]))
      obtain ⟨k, hk⟩ : ∃ k : Nat, nextF Q S Q.length = k := ⟨(nextF Q S Q.length).toNat, by omega⟩
      obtain ⟨p, hp, hs, _⟩ := next_free Q S Q.length k hk
      have hc := cnt_set hs
      rw [runT_go hk] at h5
      have ho := ask1_ok (now := f.now + 1) (L := L) (q := (Q, W)) (i := k) h3 hLk.2
      have hkl := (List.getElem?_eq_some_iff.1 hp).1
      dsimp only
      rw [hk]
      (simp -dsimp (disch := first | omega | (simp only [hp, hs, hkl, LR] <;> omega) | fail) only [push_cast, hp, hs, hkl, simprocAttr, -Nat.reduceSubDiff]) <;> (repeat (refine (aw_draw (by kernel_rfl)).2 ?_; simp -dsimp (disch := first | omega | (simp only [hp, hs, hkl, LR] <;> omega) | fail) only [push_cast, hp, hs, hkl, simprocAttr, -Nat.reduceSubDiff]))
      refine callC (l7Choice { f with now := f.now + 1, full := false, Q := Q } L k p ⟨hf.1, hf.2.1, h3⟩ hLl hp) ?_
      have hst : ask1 (f.now + 1) L (Q, W) k = if pickL Q p L = (⟨#[]⟩ : Str) then (Q, W) else (Q.set k ⟨p.lies, 5, f.now + 1, pickL Q p L, p.N⟩, W ++ [⟨0, k + 1, pickL Q p L, false, ⟨#[]⟩⟩]) := by
        show (match Q[k]? with | none => _ | some p => _) = _
        rw [hp]
      have hkS : k < S.length := by omega
      have hset : (S.map boolR).set k [AV.sc (.bool true)] = (S.set k true).map boolR := by rw [List.map_set]; rfl
      have hSl : (S.set k true).length = f.Q.length := by rw [List.length_set]; exact h1
      generalize pickL Q p L = u at *
      by_cases hu : u = (⟨#[]⟩ : Str)
      · rw [if_pos hu] at hst
        rw [hst] at h5 ho
        (simp -dsimp (disch := first | omega | (simp only [hp, hs, hkl, hu, hset, LR] <;> omega) | fail) only [push_cast, hp, hs, hkl, hu, hset, simprocAttr, -Nat.reduceSubDiff]) <;> (repeat (refine (aw_draw (by kernel_rfl)).2 ?_; simp -dsimp (disch := first | omega | (simp only [hp, hs, hkl, hu, hset, LR] <;> omega) | fail) only [push_cast, hp, hs, hkl, hu, hset, simprocAttr, -Nat.reduceSubDiff]))
        refine callC (l7Next { f with now := f.now + 1, full := false, Q := Q } (S.set k true) ⟨hf.1, hf.2.1, h3⟩ (by rw [hSl]; exact h2.symm)) ?_
        (simp -dsimp (disch := first | omega | (simp only [hp, hs, hkl, hu, hset, LR] <;> omega) | fail) only [push_cast, hp, hs, hkl, hu, hset, simprocAttr, -Nat.reduceSubDiff]) <;> (repeat (refine (aw_draw (by kernel_rfl)).2 ?_; simp -dsimp (disch := first | omega | (simp only [hp, hs, hkl, hu, hset, LR] <;> omega) | fail) only [push_cast, hp, hs, hkl, hu, hset, simprocAttr, -Nat.reduceSubDiff]))
        refine ih (S.set k true, Q, W) _ (by show cntF (S.set k true) < cntF S; omega) ⟨hSl, h2, h3, by show W.length + cntF (S.set k true) ≤ 5; omega, h5⟩ ?_
        simp -dsimp (disch := first | omega | (simp only [wr_id, List.length_set, LR] <;> omega) | fail) only [push_cast, wr_id, List.length_set, simprocAttr, -Nat.reduceSubDiff]
      · rw [if_neg hu] at hst
        rw [hst] at h5 ho
        (simp -dsimp (disch := first | omega | (simp only [hp, hs, hkl, hu, hset, List.getElem?_set_self, List.set_set, set_peer, LR] <;> omega) | fail) only [push_cast, hp, hs, hkl, hu, hset, List.getElem?_set_self, List.set_set, set_peer, simprocAttr, -Nat.reduceSubDiff]) <;> (repeat (refine (aw_draw (by kernel_rfl)).2 ?_; simp -dsimp (disch := first | omega | (simp only [hp, hs, hkl, hu, hset, List.getElem?_set_self, List.set_set, set_peer, LR] <;> omega) | fail) only [push_cast, hp, hs, hkl, hu, hset, List.getElem?_set_self, List.set_set, set_peer, simprocAttr, -Nat.reduceSubDiff]))
        refine callC (l7Next { f with now := f.now + 1, full := false, Q := Q.set k ⟨p.lies, 5, f.now + 1, u, p.N⟩ } (S.set k true) ⟨hf.1, hf.2.1, ho⟩ (by rw [hSl]; show f.Q.length = (Q.set _ _).length; rw [List.length_set]; exact h2.symm)) ?_
        (simp -dsimp (disch := first | omega | (simp only [hp, hs, hkl, hu, hset, LR] <;> omega) | fail) only [push_cast, hp, hs, hkl, hu, hset, simprocAttr, -Nat.reduceSubDiff]) <;> (repeat (refine (aw_draw (by kernel_rfl)).2 ?_; simp -dsimp (disch := first | omega | (simp only [hp, hs, hkl, hu, hset, LR] <;> omega) | fail) only [push_cast, hp, hs, hkl, hu, hset, simprocAttr, -Nat.reduceSubDiff]))
        refine ih (S.set k true, Q.set k ⟨p.lies, 5, f.now + 1, u, p.N⟩, W ++ [⟨0, k + 1, u, false, ⟨#[]⟩⟩]) _ (by show cntF (S.set k true) < cntF S; omega) ⟨hSl, by show (Q.set _ _).length = _; rw [List.length_set]; exact h2, ho, by show (W ++ _).length + cntF (S.set k true) ≤ 5; rw [List.length_append, List.length_singleton]; omega, h5⟩ ?_
        simp -dsimp (disch := first | omega | (simp only [wr_id, List.length_set, List.length_append, List.map_append, List.length_singleton, List.map_cons, List.map_nil, LR] <;> omega) | fail) only [push_cast, wr_id, List.length_set, List.length_append, List.map_append, List.length_singleton, List.map_cons, List.map_nil, simprocAttr, -Nat.reduceSubDiff]
end Go.Proofs.YtkkmgjhfjhcdmaaGreatDoor.Mx

/- A fetch ticks: pure, the program's way. -/
namespace Go.Proofs.YtkkmgjhfjhcdmaaGreatDoor.Mx
set_option linter.all false
open Go Go.RowKit
def natR (k : Nat) : Row := [.sc (.int .i64 k)]
@[push_cast] theorem flat_Nat (l : List Nat) : flatR (l.map natR) = true := by simp [flatR, natR, isSc]
@[push_cast] theorem own_Nat (l : List Nat) : (l.map natR).all (fun row => row.all own2) = true := by simp [natR, own2]
@[push_cast] theorem rd_Nat (l : List Nat) : rdR (l.map natR) = l.map natR := by simp [rdR, natR, rdC]
attribute [push_cast] natR
/-- whom who is waiting has been asked for -/
def asksT (Q : List Peer) (i : Nat) : List Str := ((Q.take i).filter fun p => decide (0 < p.wait)).map (·.ask)
def freeT (Q : List Peer) (i : Nat) : List Nat := (List.range i).filter fun k => match Q[k]? with | some p => freeP p | none => false
theorem asks_step {Q : List Peer} {i : Nat} {p : Peer} (h : Q[i]? = some p) : asksT Q (i + 1) = if 0 < p.wait then asksT Q i ++ [p.ask] else asksT Q i := by
  unfold asksT
  rw [take_step h, List.filter_append, List.map_append]
  by_cases w : 0 < p.wait <;> simp [w]
theorem free_step {Q : List Peer} {i : Nat} {p : Peer} (h : Q[i]? = some p) : freeT Q (i + 1) = if freeP p = true then freeT Q i ++ [i] else freeT Q i := by
  unfold freeT
  rw [List.range_succ, List.filter_append]
  by_cases w : freeP p = true <;> simp [h, w]
theorem free_len (Q : List Peer) (i : Nat) : (freeT Q i).length ≤ i := by
  unfold freeT
  exact Nat.le_trans (List.length_filter_le ..) (by simp)
theorem decQ_get {Q : List Peer} {i : Nat} {p : Peer} (h : Q[i]? = some p) : (Q.map decP)[i]? = some (decP p) := by rw [List.getElem?_map, h]; rfl
theorem ask1_at {now : Int} {L : List Str} {Q : List Peer} {W : List Message} {i : Nat} {p : Peer} (hp : Q[i]? = some p) : ask1 now L (Q, W) i = if pickL Q p L = (⟨#[]⟩ : Str) then (Q, W) else (Q.set i ⟨p.lies, 5, now, pickL Q p L, p.N⟩, W ++ [⟨0, i + 1, pickL Q p L, false, ⟨#[]⟩⟩]) := by
  show (match Q[i]? with | none => _ | some p => _) = _
  rw [hp]
theorem any_set {α : Type} (f : α → Bool) : ∀ {l : List α} {i : Nat} {a b : α}, l[i]? = some a → f a = false → (l.set i b).any f = (l.any f || f b)
  | [], i, a, b, h, _ => by simp at h
  | c :: r, 0, a, b, h, hf => by
    simp only [List.getElem?_cons_zero, Option.some.injEq] at h
    subst h
    simp only [List.set_cons_zero, List.any_cons, hf, Bool.false_or]
    rw [Bool.or_comm]
  | c :: r, i + 1, a, b, h, hf => by
    rw [List.set_cons_succ, List.any_cons, any_set f (l := r) (by simpa using h) hf, List.any_cons, Bool.or_assoc]
theorem asked_set {Q : List Peer} {i : Nat} {p : Peer} {a b : Int} {u : Str} {N : List Str} (hp : Q[i]? = some p) (hw : p.wait = 0) (x : Str) : askedB (Q.set i ⟨a, 5, b, u, N⟩) x = (askedB Q x || decide (u = x)) := by
  unfold askedB
  rw [any_set _ hp (by simp [hw])]
  simp
theorem asks_asked {Q : List Peer} (x : Str) : inL (asksT Q Q.length) x = askedB Q x := by
  unfold asksT askedB inL
  rw [List.take_length]
  induction Q with
  | nil => rfl
  | cons p r ih =>
    by_cases w : 0 < p.wait
    · simp [w, ih]
    · simp [w, ih]
end Go.Proofs.YtkkmgjhfjhcdmaaGreatDoor.Mx

/- A fetch ticks: pure, the order. -/
namespace Go.Proofs.YtkkmgjhfjhcdmaaGreatDoor.Mx
set_option linter.all false
open Go Go.RowKit
theorem list_pos {s : Store} {n : Str} : ∀ x ∈ (listF s n).1.S, x.size ≠ 0 := by
  unfold listF
  split
  · simp
  · split
    · rename_i x _
      cases h : (readL x.t s.w).2 with
      | false => rw [read_fst h]; simp
      | true =>
        obtain ⟨w1, _, _, _, _, hs⟩ := okLs_up (read_ok h).1
        intro y hy
        have := hs y hy
        omega
    · simp
theorem lackL_mem {w : Int} {I : List Item} : ∀ {L acc : List Str} {P : Str → Prop}, (∀ x ∈ acc, P x) → (∀ x ∈ L, P x) → ∀ x ∈ lackL w I acc L, P x
  | [], acc, P, h, _ => h
  | x :: r, acc, P, h, h2 => by
    rw [lackL]
    refine lackL_mem ?_ (fun y hy => h2 y (by simp [hy]))
    split
    · intro y hy
      rcases List.mem_append.1 hy with hy | hy
      · exact h y hy
      · rw [List.mem_singleton.1 hy]; exact h2 x (by simp)
    · exact h
theorem lacks_ne {f : Fetch} (hv : validF f = true) : ∀ x ∈ lacksF f.st f.nm, x ≠ (⟨#[]⟩ : Str) := by
  have hw : 1 ≤ f.st.w := by
    unfold validF at hv
    simp only [Bool.and_eq_true] at hv
    exact ((valid_iff f.st).1 hv.1.1.1.1).1.1
  have key : ∀ x ∈ lacksF f.st f.nm, x.size ≠ 0 := by
    unfold lacksF
    split
    · intro x h; cases h
    · rename_i h
      split
      · intro x hx
        rw [List.mem_singleton.1 hx]
        omega
      · exact lackL_mem (fun x hx => by cases hx) list_pos
  intro x hx e
  exact key x hx (by rw [e]; rfl)
def lastN (Q : List Peer) (k : Nat) : Int := match Q[k]? with | some p => p.last | none => 0
def ltP (Q : List Peer) (a b : Nat) : Bool := decide (lastN Q a < lastN Q b)
def lexP (Q : List Peer) (a b : Nat) : Prop := lastN Q a < lastN Q b ∨ (lastN Q a = lastN Q b ∧ a < b)
/-- one more, into what lies the wrong way round -/
def insR (lt : Nat → Nat → Bool) (x : Nat) : List Nat → List Nat
  | [] => [x]
  | y :: r => if lt x y = true then y :: insR lt x r else x :: y :: r
def insAll (lt : Nat → Nat → Bool) : List Nat → List Nat → List Nat
  | acc, [] => acc
  | acc, x :: r => insAll lt (insR lt x acc) r
def sortT (Q : List Peer) (l : List Nat) : List Nat := (insAll (ltP Q) [] l).reverse
theorem insR_len (lt : Nat → Nat → Bool) (x : Nat) : ∀ acc, (insR lt x acc).length = acc.length + 1
  | [] => rfl
  | y :: r => by rw [insR]; split <;> simp [insR_len lt x r]
theorem insR_mem {lt : Nat → Nat → Bool} {x z : Nat} : ∀ {acc : List Nat}, z ∈ insR lt x acc ↔ z = x ∨ z ∈ acc
  | [] => by simp [insR]
  | y :: r => by
    rw [insR]
    split
    · simp only [List.mem_cons, insR_mem (acc := r)]
      constructor
      · rintro (h | h | h)
        · exact .inr (.inl h)
        · exact .inl h
        · exact .inr (.inr h)
      · rintro (h | h | h)
        · exact .inr (.inl h)
        · exact .inl h
        · exact .inr (.inr h)
    · simp
theorem insAll_len (lt : Nat → Nat → Bool) : ∀ l acc, (insAll lt acc l).length = acc.length + l.length
  | [], acc => rfl
  | x :: r, acc => by rw [insAll, insAll_len lt r, insR_len, List.length_cons]; omega
theorem insAll_mem {lt : Nat → Nat → Bool} {z : Nat} : ∀ {l acc : List Nat}, z ∈ insAll lt acc l ↔ z ∈ acc ∨ z ∈ l
  | [], acc => by simp [insAll]
  | x :: r, acc => by
    rw [insAll, insAll_mem (l := r), insR_mem, List.mem_cons]
    constructor
    · rintro ((h | h) | h)
      · exact .inr (.inl h)
      · exact .inl h
      · exact .inr (.inr h)
    · rintro (h | h | h)
      · exact .inl (.inr h)
      · exact .inl (.inl h)
      · exact .inr h
theorem sortT_len (Q : List Peer) (l : List Nat) : (sortT Q l).length = l.length := by unfold sortT; rw [List.length_reverse, insAll_len]; simp
theorem sortT_mem {Q : List Peer} {l : List Nat} {z : Nat} : z ∈ sortT Q l ↔ z ∈ l := by unfold sortT; rw [List.mem_reverse, insAll_mem]; simp
theorem insR_lex {Q : List Peer} {x : Nat} : ∀ {acc : List Nat}, acc.Pairwise (fun b a => lexP Q a b) → (∀ z ∈ acc, z < x) → (insR (ltP Q) x acc).Pairwise (fun b a => lexP Q a b)
  | [], _, _ => by simp [insR]
  | y :: r, h, hx => by
    obtain ⟨h1, h2⟩ := List.pairwise_cons.1 h
    have hy := hx y (by simp)
    rw [insR]
    split
    · rename_i c
      have c : lastN Q x < lastN Q y := of_decide_eq_true c
      refine List.pairwise_cons.2 ⟨fun z hz => ?_, insR_lex h2 fun z hz => hx z (by simp [hz])⟩
      rcases insR_mem.1 hz with e | e
      · subst e; exact .inl c
      · exact h1 z e
    · rename_i c
      have c : ¬ lastN Q x < lastN Q y := fun e => c (decide_eq_true e)
      refine List.pairwise_cons.2 ⟨fun z hz => ?_, h⟩
      have hzx := hx z hz
      have : lastN Q z ≤ lastN Q y := by
        rcases List.mem_cons.1 hz with e | e
        · rw [e]; exact Int.le_refl _
        · rcases h1 z e with q | q <;> omega
      unfold lexP
      omega
theorem insAll_lex {Q : List Peer} : ∀ {l acc : List Nat}, acc.Pairwise (fun b a => lexP Q a b) → l.Pairwise (· < ·) → (∀ z ∈ acc, ∀ x ∈ l, z < x) → (insAll (ltP Q) acc l).Pairwise (fun b a => lexP Q a b)
  | [], acc, h, _, _ => h
  | x :: r, acc, h, hl, hx => by
    obtain ⟨h1, h2⟩ := List.pairwise_cons.1 hl
    rw [insAll]
    refine insAll_lex (insR_lex h fun z hz => hx z hz x (by simp)) h2 fun z hz y hy => ?_
    rcases insR_mem.1 hz with e | e
    · rw [e]; exact h1 y hy
    · exact hx z e y (by simp [hy])
theorem sortT_lex {Q : List Peer} {l : List Nat} (h : l.Pairwise (· < ·)) : (sortT Q l).Pairwise (lexP Q) := by
  unfold sortT
  rw [List.pairwise_reverse]
  exact insAll_lex List.Pairwise.nil h (fun z hz => by cases hz)
theorem free_up (Q : List Peer) (i : Nat) : (freeT Q i).Pairwise (· < ·) := by
  unfold freeT
  exact List.Pairwise.filter _ List.pairwise_lt_range
theorem free_mem {Q : List Peer} {i k : Nat} (hi : i = Q.length) : k ∈ freeT Q i ↔ ∃ p, Q[k]? = some p ∧ freeP p = true := by
  subst hi
  unfold freeT
  rw [List.mem_filter, List.mem_range]
  constructor
  · rintro ⟨h, h2⟩
    obtain ⟨p, hp⟩ := ex_get h
    rw [hp] at h2
    exact ⟨p, hp, h2⟩
  · rintro ⟨p, hp, h2⟩
    exact ⟨(List.getElem?_eq_some_iff.1 hp).1, by rw [hp]; exact h2⟩
theorem lex_irr {Q : List Peer} {a : Nat} : ¬ lexP Q a a := by unfold lexP; omega
theorem sort_nodup {Q : List Peer} {l : List Nat} (h : l.Pairwise (· < ·)) : (sortT Q l).Nodup := (sortT_lex (Q := Q) h).imp fun h e => by subst e; exact lex_irr h
theorem next_min (Q : List Peer) (S : List Bool) : ∀ (i j : Nat) (p : Peer), j < i → Q[j]? = some p → S[j]? = some false → freeP p = true → 0 ≤ nextF Q S i ∧ (lastN Q (nextF Q S i).toNat < lastN Q j ∨ (lastN Q (nextF Q S i).toNat = lastN Q j ∧ (nextF Q S i).toNat ≤ j))
  | 0, j, p, h, _, _, _ => by omega
  | i + 1, j, p, hj, hp, hs, hf => by
    have hlast : ∀ b : Int, lastAt Q b = lastN Q b.toNat := fun b => rfl
    have hr := next_rng Q S i
    rw [nextF]
    by_cases e : j = i
    · subst e
      rw [hp, hs]
      simp only
      split
      · rw [Int.toNat_natCast]; omega
      · rename_i c
        have c1 : ¬ nextF Q S j < 0 := fun q => c ⟨trivial, hf, .inl q⟩
        have c2 : ¬ p.last < lastAt Q (nextF Q S j) := fun q => c ⟨trivial, hf, .inr q⟩
        have : lastN Q j = p.last := by unfold lastN; rw [hp]
        rw [hlast] at c2
        omega
    · have ih := next_min Q S i j p (by omega) hp hs hf
      split
      · rename_i u b hu hb
        split
        · rename_i c
          have : lastN Q i = u.last := by unfold lastN; rw [hu]
          rcases c.2.2 with q | q
          · omega
          · rw [hlast] at q
            rw [Int.toNat_natCast]
            omega
        · exact ih
      · exact ih
theorem run_sort (now : Int) (L : List Str) : ∀ (D : List Nat) (S : List Bool) (q : List Peer × List Message), D.Pairwise (lexP q.1) → (∀ k, k ∈ D ↔ ∃ p, q.1[k]? = some p ∧ freeP p = true ∧ S[k]? = some false) → runT now L S q = D.foldl (ask1 now L) q
  | [], S, q, _, hm => by
    refine runT_end ?_
    by_cases h : nextF q.1 S q.1.length < 0
    · exact h
    · obtain ⟨p, h1, h2, h3⟩ := next_free q.1 S q.1.length (nextF q.1 S q.1.length).toNat (by omega)
      have := (hm _).2 ⟨p, h1, h3, h2⟩
      cases this
  | k :: D, S, q, hp, hm => by
    obtain ⟨h1, h2⟩ := List.pairwise_cons.1 hp
    obtain ⟨p, g1, g2, g3⟩ := (hm k).1 (by simp)
    have hk := (List.getElem?_eq_some_iff.1 g1).1
    obtain ⟨n0, n1⟩ := next_min q.1 S q.1.length k p hk g1 g3 g2
    have hn : nextF q.1 S q.1.length = k := by
      obtain ⟨p', e1, e2, e3⟩ := next_free q.1 S q.1.length (nextF q.1 S q.1.length).toNat (by omega)
      rcases List.mem_cons.1 ((hm _).2 ⟨p', e1, e3, e2⟩) with q | q
      · omega
      · have := h1 _ q
        unfold lexP at this
        omega
    rw [runT_go hn, List.foldl_cons]
    have hkD : k ∉ D := fun h => lex_irr (h1 k h)
    have hoth : ∀ j, j ≠ k → (ask1 now L q k).1[j]? = q.1[j]? := fun j hj => by
      unfold ask1
      rw [g1]
      simp only
      split
      · rfl
      · exact List.getElem?_set_ne (Ne.symm hj)
    have hlast : ∀ j, j ∈ D → lastN (ask1 now L q k).1 j = lastN q.1 j := fun j hj => by
      unfold lastN
      rw [hoth j (fun e => hkD (e ▸ hj))]
    refine run_sort now L D _ _ (h2.imp_of_mem fun ha hb hab => ?_) fun j => ?_
    · unfold lexP at hab ⊢
      rw [hlast _ ha, hlast _ hb]
      exact hab
    · by_cases e : j = k
      · subst e
        constructor
        · intro h; exact (hkD h).elim
        · rintro ⟨_, _, _, h⟩
          have := (List.getElem?_eq_some_iff.1 g3).1
          rw [List.getElem?_set_self this] at h
          cases h
      · rw [hoth j e, List.getElem?_set_ne (Ne.symm e), ← hm j]
        simp [e]
theorem runT_sort (now : Int) (L : List Str) (Q : List Peer) : runT now L (List.replicate Q.length false) (Q, []) = (sortT Q (freeT Q Q.length)).foldl (ask1 now L) (Q, []) := by
  refine run_sort now L _ _ _ (sortT_lex (free_up Q _)) fun k => ?_
  rw [sortT_mem, free_mem rfl]
  constructor
  · rintro ⟨p, h1, h2⟩
    have := (List.getElem?_eq_some_iff.1 h1).1
    exact ⟨p, h1, h2, by rw [List.getElem?_replicate, if_pos this]⟩
  · rintro ⟨p, h1, h2, _⟩
    exact ⟨p, h1, h2⟩
theorem sort_free {Q : List Peer} {n k : Nat} (hn : n = Q.length) (h : k ∈ sortT Q (freeT Q n)) : ∃ p, Q[k]? = some p ∧ p.wait = 0 := by
  rw [sortT_mem, free_mem hn] at h
  obtain ⟨p, h1, h2⟩ := h
  refine ⟨p, h1, ?_⟩
  unfold freeP at h2
  simp only [Bool.and_eq_true, decide_eq_true_eq] at h2
  exact h2.1
end Go.Proofs.YtkkmgjhfjhcdmaaGreatDoor.Mx

/- A fetch ticks: the order, by sort.SliceStable. -/
namespace Go.Proofs.YtkkmgjhfjhcdmaaGreatDoor.Mx
set_option linter.all false
open Go Go.RowKit Go.Proofs Go.Sort
set_option linter.unusedSimpArgs false
set_option maxRecDepth 20000 in
set_option maxHeartbeats 2000000 in
theorem less_tick (fb ob blk off c qb qo qn qc size : Nat) (W : Go.World) (G : Nat → Nat) (La : Nat → Int)
    (hf : W.cell? ⟨fb, 7, none⟩ = some (.slice (some ⟨qb, qo, none⟩) qn qc))
    (ho : W.cell? ⟨ob, 0, none⟩ = some (.slice (some ⟨blk, off, none⟩) size c))
    (hc : ∀ t, t < size → W.cell? ⟨blk, off + t, none⟩ = some (.int .i64 (G t))) (hG : ∀ t, t < size → G t < qn)
    (hq : ∀ k, k < qn → W.cell? ⟨qb, qo + k * 5 + 2, none⟩ = some (.int .i64 (La k)))
    (i j : Nat) (hi : i < size) (hj : j < size) (hsz : size < 4611686018427387904) (hqn : qn < 4611686018427387904) :
    Calls Tryz.prog 128 #[.int .i64 i, .int .i64 j, .pointer (some ⟨fb, 0, none⟩), .pointer (some ⟨ob, 0, none⟩)] W fun e w' => e = .returned (.bool (decide (La (G i) < La (G j)))) ∧ ∃ q, w' = W.drewN q := by
  have ci := hc i hi
  have cj := hc j hj
  have gi := hG i hi
  have gj := hG j hj
  have qi := hq _ gi
  have qj := hq _ gj
  go_enter Tryz.func128, Tryz.ntmps128
  go_wp2
  go_quiet (fail)
  go_wp2
  go_ret
  exact ⟨rfl, nq, rfl⟩
end Go.Proofs.YtkkmgjhfjhcdmaaGreatDoor.Mx

/- The library's insertion sort, on lists. -/
namespace Go.Proofs.YtkkmgjhfjhcdmaaGreatDoor.Mx
set_option linter.all false
open Go Go.RowKit Go.Sort
section
variable {α : Type} [Inhabited α]
def insG (lt : α → α → Bool) (x : α) : List α → List α
  | [] => [x]
  | y :: r => if lt x y = true then y :: insG lt x r else x :: y :: r
def insGA (lt : α → α → Bool) : List α → List α → List α
  | acc, [] => acc
  | acc, x :: r => insGA lt (insG lt x acc) r
theorem insG_len (lt : α → α → Bool) (x : α) : ∀ acc, (insG lt x acc).length = acc.length + 1
  | [] => rfl
  | y :: r => by rw [insG]; split <;> simp [insG_len lt x r]
theorem at_mid {r l : List α} {y : α} : ((r ++ y :: l).toArray)[r.length]! = y := by
  rw [getElem!_def]
  simp
theorem at_mid1 {r l : List α} {y x : α} : ((r ++ y :: x :: l).toArray)[r.length + 1]! = x := by
  rw [getElem!_def]
  simp [List.getElem?_append_right]
theorem swp_mid {r l : List α} {y x : α} : swp (r ++ y :: x :: l).toArray (r.length + 1) r.length = (r ++ x :: y :: l).toArray := by
  unfold swp
  rw [at_mid, at_mid1]
  simp [List.setIfInBounds_toArray, List.set_append_right]
theorem ins1 (lt : α → α → Bool) (x : α) : ∀ (acc rest : List α), insInner lt 0 acc.length (acc.reverse ++ x :: rest).toArray = ((insG lt x acc).reverse ++ rest).toArray
  | [], rest => by simp [insInner, insG]
  | y :: r, rest => by
    have e : (y :: r).reverse ++ x :: rest = r.reverse ++ y :: x :: rest := by simp
    have h1 := at_mid (r := r.reverse) (l := x :: rest) (y := y)
    have h2 := at_mid1 (r := r.reverse) (l := rest) (y := y) (x := x)
    have h3 := swp_mid (r := r.reverse) (l := rest) (y := y) (x := x)
    rw [List.length_reverse] at h1 h2 h3
    rw [List.length_cons, insInner, e, h1, h2, h3, insG]
    cases c : lt x y with
    | true =>
      rw [if_pos (by simp), if_pos rfl, ins1 lt x r (y :: rest)]
      simp
    | false =>
      rw [if_neg (by simp), if_neg (by simp)]
      simp
theorem ins_all (lt : α → α → Bool) : ∀ (l acc : List α) (b : Nat), b = acc.length + l.length → insOuter lt 0 b acc.length (acc.reverse ++ l).toArray = (insGA lt acc l).reverse.toArray
  | [], acc, b, hb => by
    rw [insOuter, if_neg (by rw [List.length_nil] at hb; omega), insGA]
    simp
  | x :: r, acc, b, hb => by
    rw [List.length_cons] at hb
    rw [insOuter, if_pos (by omega), ins1, insGA]
    have := ins_all lt r (insG lt x acc) b (by rw [insG_len]; omega)
    rw [insG_len] at this
    exact this
theorem insG_map (lt : Nat → Nat → Bool) (f : α → Nat) (x : α) : ∀ acc : List α, (insG (fun a b => lt (f a) (f b)) x acc).map f = insR lt (f x) (acc.map f)
  | [] => rfl
  | y :: r => by
    rw [insG, List.map_cons, insR]
    split
    · rw [List.map_cons, insG_map lt f x r]
    · rfl
theorem insGA_map (lt : Nat → Nat → Bool) (f : α → Nat) : ∀ (l acc : List α), (insGA (fun a b => lt (f a) (f b)) acc l).map f = insAll lt (acc.map f) (l.map f)
  | [], acc => rfl
  | x :: r, acc => by rw [insGA, List.map_cons, insAll, insGA_map lt f r, insG_map]
theorem sort_list (Q : List Peer) (f : α → Nat) (l : List α) : ∃ l' : List α, insertionSort (fun a b => ltP Q (f a) (f b)) l.toArray 0 l.length = l'.toArray ∧ l'.map f = sortT Q (l.map f) := by
  unfold insertionSort sortT
  cases l with
  | nil => exact ⟨[], by rw [insOuter]; simp, by simp [insAll]⟩
  | cons x r =>
    have := ins_all (fun a b => ltP Q (f a) (f b)) r [x] (x :: r).length (by simp; omega)
    simp only [List.length_singleton, List.reverse_singleton, List.singleton_append] at this
    refine ⟨_, this, ?_⟩
    rw [List.map_reverse, insGA_map]
    rfl
end
end Go.Proofs.YtkkmgjhfjhcdmaaGreatDoor.Mx

/- A fetch ticks: the call of sort.SliceStable, in the machine's terms. -/
namespace Go.Proofs.YtkkmgjhfjhcdmaaGreatDoor.Mx
set_option linter.all false
open Go Go.RowKit Go.Proofs Go.Sort
set_option linter.unusedSimpArgs false
section
variable {w0 : Go.World} {M R : Nat → Prop} {γ : Gs} {φ : Fp} {tv : Tv} {sv : Sv} {a : Act} {w : Go.World}
/-- blocks come new that nobody names; draws -/
theorem sim_grow (h : Sim w0 M R γ φ tv sv a w) (n : Nat) (os : Array Obj) : Sim w0 M R γ φ tv sv a (Sort.grow (Sort.ahead w n) os) := by
  have hold : ∀ k, k < w.heap.size → (Sort.grow (Sort.ahead w n) os).heap[k]? = w.heap[k]? := fun k hk => by
    simp only [Sort.grow]
    rw [Array.getElem?_append_left (by simpa [Sort.ahead] using hk)]
    rfl
  have hsz : w.heap.size ≤ (Sort.grow (Sort.ahead w n) os).heap.size := by simp [Sort.grow, Sort.ahead]
  refine (h.step (fun _ => False) (fun _ _ h => h) (fun _ _ => ⟨rfl, rfl⟩) ?_ (Kp.old hold) hsz (fun b hb _ => hold b hb) (fun _ _ h => h.elim) (fun _ _ h => h.elim) (fun _ _ _ _ _ _ _ h => h.elim)
    (fun _ _ _ _ _ _ h => h.elim) (fun _ _ _ h => h.elim)).1
  exact ⟨h.fr.os, h.fr.tape, h.fr.output, Nat.le_trans h.fr.size hsz, fun k hk hM => by
    rw [hold k (Nat.lt_of_lt_of_le hk h.fr.size)]
    exact h.fr.block k hk hM⟩
def encN (k : Nat) : Value := .int .i64 k
/-- a row of numbers is put in order -/
theorem sim_sorted (h : Sim w0 M R γ φ tv sv a w) {mk vk : Nat} {D D' : List Nat} (hmk : sv mk = some (.ar 1 vk (D.map natR))) (hlen : D'.length = D.length) (h0 : 0 < D.length)
    (hal : ∀ k p i j v, sv k = some (.sb p i j v) → p ≠ mk) (hit : ∀ k p v seen, sv k = some (.it p v seen) → p ≠ mk) {b off cap : Nat} (hg : γ mk = some (.slice (some ⟨b, off, none⟩) D.length cap, 1)) :
    Sim w0 M R γ φ tv (updS sv mk (some (.ar 1 vk (D'.map natR)))) a (putRow encN w b off D'.toArray) := by
  obtain ⟨v0, g1, ho⟩ := h.bk mk _ hmk
  rw [hg] at g1
  cases g1
  generalize hr : D.map natR = rows at ho
  have hrl : rows.length = D.length := by rw [← hr, List.length_map]
  generalize hv0 : Value.slice (some ⟨b, off, none⟩) D.length cap = v0 at ho
  cases ho with
  | rd _ _ _ h1 => exact (h1 _ _ rfl).elim
  | nil => cases hv0
  | emp => rw [List.length_nil] at hrl; omega
  | sl _ _ b1 off1 cap1 _ cur e fr Fs f1 f2 f3 f4 f5 f6 f7 f8 f9 f10 f11 =>
    simp only [Value.slice.injEq, Option.some.injEq, Addr.mk.injEq] at hv0
    obtain ⟨⟨rfl, rfl, _⟩, _, rfl⟩ := hv0
    have hbw := (Array.getElem?_eq_some_iff.1 f2).1
    have hb' : (putRow encN w b off D'.toArray).heap[b]? = some (.cells (putCells encN off D'.toArray cur) e fr) := by
      simp [putRow, mapBlock, Array.getElem?_modify, f2, onCells]
    have hoth : ∀ k, k ≠ b → (putRow encN w b off D'.toArray).heap[k]? = w.heap[k]? := fun k hkb => by
      simp [putRow, mapBlock, Array.getElem?_modify, Ne.symm hkb]
    have hcs : (putCells encN off D'.toArray cur).size = cur.size := by simp [putCells]
    refine (h.set (w' := putRow encN w b off D'.toArray) (B := .ar 1 vk (D'.map natR)) (by unfold live; rw [hmk]; rfl) rfl rfl rfl (Kp.cell hoth f2 hb' hcs) (by simp [putRow, mapBlock]) (fun k hk => hoth k fun e => hk (e ▸ f1)) (fun k p i j v _ hs hp => (hal k p i j v hs hp).elim) (fun k p v seen _ hs hp => (hit k p v seen hs hp).elim) fun _ => ⟨_, hg, ?_⟩).1
    have hlen2 : (D'.map natR).length = rows.length := by rw [List.length_map, hlen, hrl]
    have hget : ∀ (i : Nat) (row : Row) (j : Nat) (x : AV), (D'.map natR)[i]? = some row → row[j]? = some x → ∃ s : Nat, (putCells encN off D'.toArray cur).getD (off + (i * 1 + j)) undef = .int .i64 s ∧ x = .sc (.int .i64 s) := by
      intro i row j x hi hj
      have hil : i < D'.length := by have := idx_lt hi; rw [List.length_map] at this; exact this
      rw [List.getElem?_map, List.getElem?_eq_getElem hil] at hi
      cases hi
      cases j with
      | succ j => simp [natR] at hj
      | zero =>
        cases hj
        refine ⟨_, ?_, rfl⟩
        have hc : off + i < cur.size := by omega
        simp [putCells, hc, hil, encN]
    rw [← hrl, ← hlen2]
    refine Own.sl _ 1 b off cap _ (putCells encN off D'.toArray cur) e fr (fun _ _ _ => False) f1 hb' (by unfold Thawed; rw [hcs]; exact f3) (by rw [hlen2]; exact f4) (by rw [hcs]; exact f5) f6 (fun _ _ _ h => h.elim) (fun _ _ _ _ _ h => h.elim) ?_ ?_ ?_
    · intro i row hi
      rw [List.getElem?_map] at hi
      cases hq : D'[i]? with
      | none => rw [hq] at hi; cases hi
      | some s => rw [hq] at hi; cases hi; rfl
    · intro i row j x hi hj
      obtain ⟨s, h1, rfl⟩ := hget i row j x hi hj
      rw [h1]; rfl
    · intro i row j x hi hj
      obtain ⟨s, h1, rfl⟩ := hget i row j x hi hj
      rw [h1]
      exact Own.rd _ _ _ (by intro z r h; cases h) (by intro cs h; cases h) (.sc _ rfl)
end
/-- numbers below n, as values -/
def encF (n : Nat) (k : _root_.Fin n) : Value := .int .i64 k.val
theorem putRow_F {n : Nat} [Inhabited (_root_.Fin n)] (w : Go.World) (b off : Nat) (l : List (_root_.Fin n)) : putRow (encF n) w b off l.toArray = putRow encN w b off (l.map (·.val)).toArray := by
  have : putCells (encF n) off l.toArray = putCells encN off (l.map (·.val)).toArray := by
    funext c
    unfold putCells
    refine congrArg (fun q => c.mapIdx q) ?_
    funext k x
    simp only [List.size_toArray, List.length_map]
    split
    · rename_i h
      have hk : k - off < l.length := by omega
      simp [encF, encN, getElem!_def, hk]
    · rfl
  unfold putRow
  rw [this]
end Go.Proofs.YtkkmgjhfjhcdmaaGreatDoor.Mx

/- A fetch ticks: sort.SliceStable's contract at the program's own closure. -/
namespace Go.Proofs.YtkkmgjhfjhcdmaaGreatDoor.Mx
set_option linter.all false
open Go Go.RowKit Go.Proofs Go.Sort Go.Lib
set_option linter.unusedSimpArgs false
noncomputable def siT : TypeInfo := (Tryz.prog.info? 128).get (by kernel_rfl)
noncomputable def siE : TypeInfo := (Tryz.prog.info? 3).get (by kernel_rfl)
theorem siK (n : Nat) (h2 : 2 ≤ n) : Lib.swapperK n siE 2 = 5 := by
  have a : siE.hasPointers = false := by kernel_rfl
  have b : siE.bytes = 8 := by kernel_rfl
  have c : (n == 0) = false := by simp; omega
  have d : (n == 1) = false := by simp; omega
  simp [Lib.swapperK, a, b, c, d]
theorem stable_small {n : Nat} [Inhabited (_root_.Fin n)] (lt : _root_.Fin n → _root_.Fin n → Bool) (lb : Array Value) (blk off c : Nat) (d : Array (_root_.Fin n)) (h2 : 2 ≤ d.size) (h20 : d.size ≤ 20) (w : Go.World)
    (hless : LessReads Tryz.prog 128 lb (encF n) lt blk off d.size w) (hH : Holds (encF n) w blk off d) (hblk : blk < w.heap.size) :
    Calls Tryz.prog 127 #[.iface 128 (.slice (some ⟨blk, off, none⟩) d.size c), .func (.func 128) #[] lb] w fun e w' =>
      e = .returned (.tuple #[]) ∧ ∃ m os, w' = grow (putRow (encF n) (Sort.ahead w m) blk off (Sort.insertionSort lt d 0 d.size)) os :=
  Any.sort_SliceStable_small Tryz.stableL 128 3 siT siE (by kernel_rfl) (by kernel_rfl) (by kernel_rfl) (by kernel_rfl) 2 (fun _ => by kernel_rfl) (by kernel_rfl) (fun _ => by kernel_rfl) (encF n) (fun _ => rfl) lt 128 lb
    (enters_of Tryz.func128 (by kernel_rfl) rfl) blk off c d h2 h20 186 (by rw [siK _ h2]; kernel_rfl) true
    (fun args W => run_callFunc_extern Tryz.func186 (by kernel_rfl) (by kernel_rfl) (by kernel_rfl) (e := Extern.ReflectliteSwapper.swap true) (by kernel_rfl) args W) w hless hH hblk
theorem stable_tiny (lb : Array Value) (p : Option Addr) (n c : Nat) (hn : n ≤ 1) (w : Go.World) :
    Calls Tryz.prog 127 #[.iface 128 (.slice p n c), .func (.func 128) #[] lb] w fun e w' => e = .returned (.tuple #[]) ∧ ∃ os, w' = grow w os := by
  match n, hn with
  | 0, hn => exact Any.sort_SliceStable_tiny Tryz.stableL 128 3 siT siE (by kernel_rfl) (by kernel_rfl) (by kernel_rfl) (by kernel_rfl) 2 (fun _ => by kernel_rfl) p 0 c hn 182 (by kernel_rfl) _ _ lb w
  | 1, hn => exact Any.sort_SliceStable_tiny Tryz.stableL 128 3 siT siE (by kernel_rfl) (by kernel_rfl) (by kernel_rfl) (by kernel_rfl) 2 (fun _ => by kernel_rfl) p 1 c hn 183 (by kernel_rfl) _ _ lb w
end Go.Proofs.YtkkmgjhfjhcdmaaGreatDoor.Mx

/- A fetch ticks: region 21 of impl.tick. -/
namespace Go.Proofs.YtkkmgjhfjhcdmaaGreatDoor.Mx
set_option linter.all false
open Go Go.RowKit Go.Proofs Go.Sort
set_option linter.unusedSimpArgs false
section
variable {w0 : Go.World} {M R : Nat → Prop} {γ : Gs} {φ : Fp} {tv : Tv} {sv : Sv} {a : Act} {w : Go.World}
theorem sortT_small {Q : List Peer} {D : List Nat} (h : D.length ≤ 1) : sortT Q D = D := by
  match D, h with
  | [], _ => rfl
  | [x], _ => rfl
theorem updS_same {m : Nat} {B : Blk} (h : sv m = some B) : updS sv m (some B) = sv := by
  funext n
  unfold updS
  split
  · rename_i e; rw [← e, h]
  · rfl
theorem pt_val {m b : Nat} {ok : Nat → Prop} {v : Value} (hg : γ m = some (.pointer (some ⟨b, 0, none⟩), 0)) (h : RepV w ok γ v (.pt m 0 0)) : v = .pointer (some ⟨b, 0, none⟩) := by
  obtain ⟨v0, z, h1, h2⟩ := h
  rw [hg] at h1
  cases h1
  exact h2.2
/-- a row of an owned slice, where it lies -/
theorem own_at {ok F : Nat → Prop} {v0 : Value} {z : Nat} {rows : List Row} (h : Own w ok F v0 (.sl true z rows)) (h0 : 0 < rows.length) : ∃ b off cap cur e fr, v0 = .slice (some ⟨b, off, none⟩) rows.length cap ∧ F b ∧ w.heap[b]? = some (.cells cur e fr) ∧ Thawed cur fr ∧ rows.length ≤ cap ∧ off + cap * z ≤ cur.size ∧
    ∀ (i : Nat) (row : Row) (j : Nat) (k : Int), rows[i]? = some row → row[j]? = some (.sc (.int .i64 k)) → cur.getD (off + (i * z + j)) undef = .int .i64 k := by
  generalize hx : AV.sl true z rows = x at h
  cases h with
  | rd _ _ _ h1 => exact (h1 _ _ hx.symm).elim
  | nil => cases hx; simp at h0
  | emp => cases hx; simp at h0
  | sl _ _ b off cap _ cur e fr Fs f1 f2 f3 f4 f5 f6 f7 f8 f9 f10 f11 =>
    cases hx
    refine ⟨b, off, cap, cur, e, fr, rfl, f1, f2, f3, f4, f5, fun i row j k hi hj => ?_⟩
    have := own_rep (f11 i row j _ hi hj) (by intro z r h; cases h) (by intro cs h; cases h)
    generalize cur.getD (off + (i * z + j)) undef = u at this ⊢
    cases this
    rfl
  | pb => cases hx
theorem sort_core (h : Sim w0 M R γ φ tv sv a w) {m1 m5 mk mq vk vq : Nat} {cs : Row} {D : List Nat} {Q : List Peer} {v1 v5 v78 : Value}
    (h1 : RepV w (okOf w0 M R φ sv w) γ v1 (.pt m1 0 0)) (h5 : RepV w (okOf w0 M R φ sv w) γ v5 (.pt m5 0 0)) (h78 : RepV w (okOf w0 M R φ sv w) γ v78 (.ow mk 0 D.length))
    (hm1 : sv m1 = some (.bx cs)) (hcs : cs[7]? = some (.ow mq 0 Q.length)) (hm5 : sv m5 = some (.bx [.ow mk 0 D.length])) (hmk : sv mk = some (.ar 1 vk (D.map natR))) (hmq : sv mq = some (.ar 5 vq (Q.map (peerC true))))
    (ne1 : m1 ≠ mk) (ne5 : m5 ≠ mk) (neq : mq ≠ mk) (hD : ∀ k ∈ D, k < Q.length) (hDl : D.length ≤ 20) (hQl : Q.length ≤ 20)
    (hal : ∀ k p i j v, sv k = some (.sb p i j v) → p ≠ mk) (hit : ∀ k p v seen, sv k = some (.it p v seen) → p ≠ mk) :
    Calls Tryz.prog 127 #[.iface 128 v78, .func (.func 128) #[] #[v1, v5]] w fun e w' => e = .returned (.tuple #[]) ∧ Sim w0 M R γ φ tv (updS sv mk (some (.ar 1 vk ((sortT Q D).map natR)))) a w' := by
  obtain ⟨v0, z0, g78, s78⟩ := h78
  obtain ⟨u0, gk, ok⟩ := h.bk mk _ hmk
  rw [gk] at g78
  cases g78
  by_cases hs : D.length ≤ 1
  · have hp : ∃ p c, v78 = .slice p D.length c := by
      unfold Sub at s78
      split at s78
      · obtain ⟨e, _, e2⟩ := s78
        rw [e2]
        exact ⟨none, 0, e⟩
      · obtain ⟨o', c', e, _⟩ := s78
        exact ⟨_, _, e⟩
      · exact s78.elim
    obtain ⟨p, c, rfl⟩ := hp
    refine (stable_tiny #[v1, v5] p D.length c hs w).mono fun e w' hh => ?_
    obtain ⟨rfl, os, rfl⟩ := hh
    rw [sortT_small hs, updS_same hmk]
    exact ⟨rfl, sim_grow h 0 os⟩
  have hD2 : 2 ≤ D.length := by omega
  obtain ⟨b, off, cap, cur, e, fr, rfl, fb, hb, th, hc, hsz, hrow⟩ := own_at ok (by rw [List.length_map]; omega)
  rw [List.length_map] at gk s78 hc
  obtain ⟨o', c', rfl, hle, hnc, hoo⟩ := s78
  have ho' : o' = off := by
    rcases hoo with ⟨q, _⟩ | q
    · omega
    · omega
  subst ho'
  have hQ0 : 0 < Q.length := by
    obtain ⟨x, hx⟩ := ex_get (show 0 < D.length by omega)
    have := hD x (List.mem_of_getElem? hx)
    omega
  letI : Inhabited (_root_.Fin Q.length) := ⟨⟨0, hQ0⟩⟩
  obtain ⟨L, hL⟩ : ∃ L : List (_root_.Fin Q.length), L.map (·.val) = D := ⟨D.pmap (fun k h => ⟨k, h⟩) hD, by simp [List.map_pmap]⟩
  have hLl : L.length = D.length := by rw [← hL, List.length_map]
  have hLt : L.toArray.size = D.length := by rw [List.size_toArray]; exact hLl
  have hbw := (Array.getElem?_eq_some_iff.1 hb).1
  have hH : Holds (encF Q.length) w b o' L.toArray := by
    intro j hj
    rw [hLt] at hj
    have hjL : j < L.length := by omega
    refine ⟨?_, frozen_at hb th (by omega)⟩
    rw [cell_some hb (by omega)]
    have := hrow j (natR (L[j]).val) 0 (L[j]).val (by rw [← hL, List.getElem?_map, List.getElem?_map, List.getElem?_eq_getElem hjL]; rfl) rfl
    rw [Nat.mul_one, Nat.add_zero] at this
    rw [this]
    simp [encF, getElem!_def, hjL]
  obtain ⟨bf, curf, ef, frf, gf, pf, hbf, tf, lf, cf⟩ := h.bk m1 _ hm1
  have e1 := pt_val gf h1
  obtain ⟨bo, curo, eo, fro, go, po, hbo, to_, lo, co⟩ := h.bk m5 _ hm5
  have e5 := pt_val go h5
  subst e1 e5
  obtain ⟨⟨q0, zq, gq1, sq⟩, _⟩ := cf 7 _ hcs
  obtain ⟨uq, gq2, okq⟩ := h.bk mq _ hmq
  rw [gq2] at gq1
  cases gq1
  obtain ⟨bq, offq, capq, curq, eq, frq, rfl, fq, hbq, tq, hcq, hszq, hrowq⟩ := own_at okq (by rw [List.length_map]; omega)
  rw [List.length_map] at gq2 sq hcq
  obtain ⟨oq, cq, sqv, _, hnq, hooq⟩ := sq
  have hoq : oq = offq := by
    rcases hooq with ⟨q, _⟩ | q
    · omega
    · omega
  subst hoq
  obtain ⟨⟨k0, zk, gk2, sk⟩, _⟩ := co 0 _ rfl
  rw [gk] at gk2
  cases gk2
  obtain ⟨o5, c5, s5v, _, hn5, hoo5⟩ := sk
  have ho5 : o5 = o' := by
    rcases hoo5 with ⟨q, _⟩ | q
    · omega
    · omega
  subst ho5
  have lv : ∀ {m B}, sv m = some B → live sv m := fun q => by unfold live; rw [q]; rfl
  have nf : bf ≠ b := fun q => h.dj m1 mk (lv hm1) (lv hmk) ne1 bf pf (q ▸ fb)
  have no : bo ≠ b := fun q => h.dj m5 mk (lv hm5) (lv hmk) ne5 bo po (q ▸ fb)
  have nq : bq ≠ b := fun q => h.dj mq mk (lv hmq) (lv hmk) neq bq fq (q ▸ fb)
  have lf7 : 7 < curf.size := by have := (List.getElem?_eq_some_iff.1 hcs).1; omega
  have lo0 : 0 < curo.size := by simp at lo; omega
  have hless : LessReads Tryz.prog 128 #[.pointer (some ⟨bf, 0, none⟩), .pointer (some ⟨bo, 0, none⟩)] (encF Q.length) (fun a b => ltP Q a.val b.val) b o5 L.toArray.size w := by
    intro m os dk hsk i j hi hj
    have oth : ∀ x i : Nat, x < w.heap.size → x ≠ b → (sortWorld (encF Q.length) w b o5 m dk os).cell? ⟨x, i, none⟩ = w.cell? ⟨x, i, none⟩ := fun x i hx hne => by
      unfold sortWorld
      rw [cell?_grow _ _ _ (by simpa [putRow, mapBlock, Sort.ahead] using hx), cell?_putRow_other _ _ _ _ _ _ (Or.inl hne)]
      rfl
    refine less_tick bf bo b o5 c5 bq oq Q.length cq L.toArray.size _ (fun t => (dk[t]!).val) (lastN Q) ?_ ?_ (fun t ht => ?_) (fun t _ => (dk[t]!).isLt) (fun k hk => ?_) i j hi hj (by rw [hLt]; omega) (by omega)
    · rw [oth _ _ (Array.getElem?_eq_some_iff.1 hbf).1 nf, cell_some hbf lf7, sqv]
    · rw [oth _ _ (Array.getElem?_eq_some_iff.1 hbo).1 no, cell_some hbo lo0, s5v, hLt]
    · unfold sortWorld
      rw [cell?_grow _ _ _ (by simpa [putRow, mapBlock, Sort.ahead] using hbw)]
      exact cell?_putRow _ _ b o5 L.toArray dk (holds_ahead _ _ _ _ _ _ hH) hsk t (by omega)
    · obtain ⟨p, hp⟩ := ex_get hk
      rw [oth _ _ (Array.getElem?_eq_some_iff.1 hbq).1 nq, cell_some hbq (by omega)]
      have := hrowq k (peerC true p) 2 p.last (by rw [List.getElem?_map, hp]; rfl) rfl
      rw [← Nat.add_assoc] at this
      rw [this]
      unfold lastN
      rw [hp]
  have hst := stable_small (fun a b => ltP Q a.val b.val) #[.pointer (some ⟨bf, 0, none⟩), .pointer (some ⟨bo, 0, none⟩)] b o5 c' L.toArray (by omega) (by omega) w hless hH hbw
  rw [hLt] at hst
  refine hst.mono fun e' w' hh => ?_
  obtain ⟨rfl, m, os, rfl⟩ := hh
  obtain ⟨l', hl1, hl2⟩ := sort_list Q (fun k : _root_.Fin Q.length => k.val) L
  rw [hLl] at hl1
  rw [hl1, putRow_F, hl2, hL]
  exact ⟨rfl, sim_grow (sim_sorted h hmk (sortT_len Q D) (by omega) hal hit gk) m os⟩
end
end Go.Proofs.YtkkmgjhfjhcdmaaGreatDoor.Mx

/- A machine over values for Go functions, proved sound, and functions run on it: texts F55, F56, V10, F57, F58. -/
import Derived.Test.YtkkmgjhfjhcdmaaGreatDoorStoresXaj
import Derived.Test.YtkkmgjhfjhcdmaaGreatDoorStoresXak
import Derived.Test.YtkkmgjhfjhcdmaaGreatDoorStoresXal
/- Drawn stores: texts many times, times, what is unpinned. -/
namespace Go.Proofs.YtkkmgjhfjhcdmaaGreatDoor.Mx
set_option linter.all false
open Go Go.RowKit Go.Proofs
set_option linter.unusedSimpArgs false
def repB (a : List UInt8) : Nat → List UInt8
  | 0 => []
  | n + 1 => a ++ repB a n
theorem rep_two (a : List UInt8) : ∀ n, repB (a ++ a) n = repB a (2 * n)
  | 0 => rfl
  | n + 1 => by
    rw [repB, rep_two a n, show 2 * (n + 1) = 2 * n + 1 + 1 by omega, repB, repB, List.append_assoc]
theorem rep_odd (a : List UInt8) {n : Nat} (h : n % 2 = 1) : repB a n = a ++ repB (a ++ a) (n / 2) := by
  rw [rep_two]
  have e : n = 2 * (n / 2) + 1 := by omega
  conv => lhs; rw [e, repB]
theorem rep_even (a : List UInt8) {n : Nat} (h : ¬ n % 2 = 1) : repB a n = repB (a ++ a) (n / 2) := by
  rw [rep_two]
  have e : n = 2 * (n / 2) := by omega
  conv => lhs; rw [e]
theorem repB_len (a : List UInt8) : ∀ n, (repB a n).length = a.length * n
  | 0 => rfl
  | n + 1 => by rw [repB, List.length_append, repB_len a n, Nat.mul_succ]; omega
def manyS (s : Str) (n : Nat) : Str := stB (repB (bt s) n)
theorem bt_app (a b : Str) : bt (a ++ b) = bt a ++ bt b := by
  conv => lhs; rw [← stB_bt a, ← stB_bt b, stB_app, bt_stB]
theorem manyS_sz (s : Str) (n : Nat) : (manyS s n).size = s.size * n := by
  unfold manyS; rw [stB_size, repB_len, bt_len]
attribute [local push_cast] E61
set_option maxHeartbeats 1000000 in
theorem l1ManyX (s : Str) (n : Nat) (hn : n ≤ 1000000) (hK : s.size * n ≤ 1000000) (hs : s.size ≤ 2000000) : Does Tryz.prog 61 [.sc (.string s), .sc (.int .i64 n)] (.sc (.string (manyS s n)), []) := by
  refine does_of (E := E61) (rs := [.tmp 4]) (lent := []) tOk rfl Tryz.func61 rfl (by decide) rfl rfl (Nat.le_of_ble_eq_true rfl) (Nat.le_of_ble_eq_true rfl) ?_
  obtain ⟨M, hM⟩ : ∃ M, M = manyS s n := ⟨_, rfl⟩
  rw [← hM]
  have hM : bt M = repB (bt s) n := by rw [hM]; unfold manyS; rw [bt_stB]
  (simp -dsimp (disch := first | omega | (simp only [LR] <;> omega) | fail) only [push_cast, simprocAttr, -Nat.reduceSubDiff]) <;> (repeat (refine (aw_draw (by kernel_rfl)).2 ?_; simp -dsimp (disch := first | omega | (simp only [LR] <;> omega) | fail) only [push_cast, simprocAttr, -Nat.reduceSubDiff]))
  refine loop_ind (α := Str × Nat × Str) (fun q => q.2.2.size + q.1.size * q.2.1 ≤ 1000000 ∧ q.1.size ≤ 2000000 ∧ q.2.1 ≤ 1000000 ∧ bt q.2.2 ++ repB (bt q.1) q.2.1 = bt M)
    (fun q => ⟨[(0, .sc (.string q.1)), (1, .sc (.int .i64 q.2.1)), (5, .sc (.string q.2.2))], [], 1⟩)
    (fun q => q.2.1) (s, n, ⟨#[]⟩) ⟨by show 0 + s.size * n ≤ 1000000; omega, hs, hn, by rw [hM]; rfl⟩ ?_ ?_
  · simp -dsimp (disch := first | omega | (simp only [LR] <;> omega) | fail) only [push_cast, simprocAttr, -Nat.reduceSubDiff]
  rintro ⟨s, n, o⟩ ⟨g1, g2, g3, g4⟩ ih
  replace g1 : o.size + s.size * n ≤ 1000000 := g1
  replace g2 : s.size ≤ 2000000 := g2
  replace g3 : n ≤ 1000000 := g3
  replace g4 : bt o ++ repB (bt s) n = bt M := g4
  have m2 := tmod2 n
  have d2 := tdiv2 n
  by_cases h : 0 < n
  · have hle := le_prod g1 h
    by_cases e : n % 2 = 1
    · have i1 := half_odd g1 e
      have i2 := rep_odd (bt s) e
      rw [e] at m2
      have hsz : (s ++ s).size = s.size + s.size := ByteArray.size_append
      have hsz2 : (o ++ s).size = o.size + s.size := ByteArray.size_append
      (simp -dsimp (disch := first | omega | (simp only [h, m2, d2, LR] <;> omega) | fail) only [push_cast, h, m2, d2, simprocAttr, -Nat.reduceSubDiff]) <;> (repeat (refine (aw_draw (by kernel_rfl)).2 ?_; simp -dsimp (disch := first | omega | (simp only [h, m2, d2, LR] <;> omega) | fail) only [push_cast, h, m2, d2, simprocAttr, -Nat.reduceSubDiff]))
      refine ih (s ++ s, n / 2, o ++ s) _ (by show n / 2 < n; omega) ⟨by show (o ++ s).size + (s ++ s).size * (n / 2) ≤ 1000000; rw [hsz, hsz2]; exact i1, by show (s ++ s).size ≤ 2000000; omega, by show n / 2 ≤ 1000000; omega, by
        show bt (o ++ s) ++ repB (bt (s ++ s)) (n / 2) = bt M
        rw [bt_app, bt_app, List.append_assoc, ← i2, g4]⟩ ?_
      simp -dsimp (disch := first | omega | (simp only [wr_id, LR] <;> omega) | fail) only [push_cast, wr_id, simprocAttr, -Nat.reduceSubDiff]
    · have i1 := half_even g1 e
      have i2 := rep_even (bt s) e
      have e : n % 2 = 0 := by omega
      rw [e] at m2
      have hsz : (s ++ s).size = s.size + s.size := ByteArray.size_append
      (simp -dsimp (disch := first | omega | (simp only [h, m2, d2, LR] <;> omega) | fail) only [push_cast, h, m2, d2, simprocAttr, -Nat.reduceSubDiff]) <;> (repeat (refine (aw_draw (by kernel_rfl)).2 ?_; simp -dsimp (disch := first | omega | (simp only [h, m2, d2, LR] <;> omega) | fail) only [push_cast, h, m2, d2, simprocAttr, -Nat.reduceSubDiff]))
      refine ih (s ++ s, n / 2, o) _ (by show n / 2 < n; omega) ⟨by show o.size + (s ++ s).size * (n / 2) ≤ 1000000; rw [hsz]; exact i1, by show (s ++ s).size ≤ 2000000; omega, by show n / 2 ≤ 1000000; omega, by
        show bt o ++ repB (bt (s ++ s)) (n / 2) = bt M
        rw [bt_app, ← i2, g4]⟩ ?_
      simp -dsimp (disch := first | omega | (simp only [wr_id, LR] <;> omega) | fail) only [push_cast, wr_id, simprocAttr, -Nat.reduceSubDiff]
  · have hn : n = 0 := by omega
    rw [hn, repB, List.append_nil] at g4
    have hoM : o = M := by rw [← stB_bt o, g4, stB_bt]
    subst hoM
    (simp -dsimp (disch := first | omega | (simp only [h, LR] <;> omega) | fail) only [push_cast, h, simprocAttr, -Nat.reduceSubDiff]) <;> (repeat (refine (aw_draw (by kernel_rfl)).2 ?_; simp -dsimp (disch := first | omega | (simp only [h, LR] <;> omega) | fail) only [push_cast, h, simprocAttr, -Nat.reduceSubDiff]))
def nwR (c : List Int) (p : Int) (r : Ans) : Prop := ∃ (n p' : Int), r = (.sc (.int .i64 n), [some (.pb true (rdC1 c p'))]) ∧ -1 ≤ n ∧ n ≤ 1000001 ∧ p ≤ p' ∧ p' ≤ p + 2
def E62 : Env := { T := T0, kp := look [(0, [0]), (1, [0]), (2, [0]), (3, [0])], md := look3 [(1, 1, [1, 0]), (2, 2, [1, 0]), (3, 1, [1, 0])] }
attribute [local push_cast] E62
set_option maxHeartbeats 1000000 in
theorem l4Now (c : List Int) (p : Int) (hc : okCode c) (hp : 0 ≤ p) (hp2 : p ≤ 800000) : ∃ r, nwR c p r ∧ Does Tryz.prog 62 [.pb true (rdC1 c p)] r := by
  refine does_ex (E := E62) (rs := [.tmp 2]) (lent := [true]) tOk rfl Tryz.func62 rfl (by decide) rfl rfl (Nat.le_of_ble_eq_true rfl) (Nat.le_of_ble_eq_true rfl) ?_
  obtain ⟨k, hk, hd⟩ := pick_nat c p 16 hc hp (by omega) (by omega) (by omega)
  (simp -dsimp (disch := first | omega | (simp only [LR] <;> omega) | fail) only [push_cast, simprocAttr, -Nat.reduceSubDiff]) <;> (repeat (refine ex_draw (by kernel_rfl) ?_; simp -dsimp (disch := first | omega | (simp only [LR] <;> omega) | fail) only [push_cast, simprocAttr, -Nat.reduceSubDiff]))
  refine ex_call hd ?_
  clear hd
  by_cases h0 : k = 0
  · subst h0
    obtain ⟨d, hd0, hd⟩ := pick_nat c (p + 1) 3 hc (by omega) (by omega) (by omega) (by omega)
    (simp -dsimp (disch := first | omega | (simp only [lrep3, LR] <;> omega) | fail) only [push_cast, lrep3, simprocAttr, -Nat.reduceSubDiff]) <;> (repeat (refine ex_draw (by kernel_rfl) ?_; simp -dsimp (disch := first | omega | (simp only [lrep3, LR] <;> omega) | fail) only [push_cast, lrep3, simprocAttr, -Nat.reduceSubDiff]))
    refine ex_call hd ?_
    rcases (show d = 0 ∨ d = 1 ∨ d = 2 by omega) with rfl | rfl | rfl
    all_goals
      (simp -dsimp (disch := first | omega | (simp only [lrep3, LR] <;> omega) | fail) only [push_cast, lrep3, simprocAttr, -Nat.reduceSubDiff]) <;> (repeat (refine ex_draw (by kernel_rfl) ?_; simp -dsimp (disch := first | omega | (simp only [lrep3, LR] <;> omega) | fail) only [push_cast, lrep3, simprocAttr, -Nat.reduceSubDiff]))
      exact ⟨_, ⟨_, p + 1 + 1, rfl, by omega, by omega, by omega, by omega⟩, rfl⟩
  · obtain ⟨d, hd0, hd⟩ := pick_nat c (p + 1) 60 hc (by omega) (by omega) (by omega) (by omega)
    (simp -dsimp (disch := first | omega | (simp only [h0, LR] <;> omega) | fail) only [push_cast, h0, simprocAttr, -Nat.reduceSubDiff]) <;> (repeat (refine ex_draw (by kernel_rfl) ?_; simp -dsimp (disch := first | omega | (simp only [h0, LR] <;> omega) | fail) only [push_cast, h0, simprocAttr, -Nat.reduceSubDiff]))
    refine ex_call hd ?_
    (simp -dsimp (disch := first | omega | (simp only [LR] <;> omega) | fail) only [push_cast, simprocAttr, -Nat.reduceSubDiff]) <;> (repeat (refine ex_draw (by kernel_rfl) ?_; simp -dsimp (disch := first | omega | (simp only [LR] <;> omega) | fail) only [push_cast, simprocAttr, -Nat.reduceSubDiff]))
    exact ⟨_, ⟨d, p + 1 + 1, rfl, by omega, by omega, by omega, by omega⟩, rfl⟩
def woS (l : List Str) (n : Str) : List Str := l.filter fun x => !decide (x = n)
def unpinS (s : Store) (n : Str) : Store × Int :=
  if (validSt s && decide ((n.size : Int) = s.w)) = false then (emS, 1)
  else if (woS s.P n).length = s.P.length then (emS, 2)
  else ({ s with P := woS s.P n }, 0)
theorem woS_take {l : List Str} {n x : Str} {i : Nat} (h : l[i]? = some x) : woS (l.take (i + 1)) n = if x = n then woS (l.take i) n else woS (l.take i) n ++ [x] := by
  unfold woS
  rw [take_step h, List.filter_append]
  by_cases e : x = n <;> simp [e]
theorem woS_len (l : List Str) (n : Str) : (woS l n).length ≤ l.length := List.length_filter_le _ _
def E18 : Env := { T := T0, kp := look [(0, [0, 1]), (1, [1, 2, 4]), (2, [4]), (3, [1, 2, 4]), (4, [1, 2, 4, 6]), (5, [1, 2, 4, 6]), (6, [1, 2, 4, 6, 7]), (7, [1, 2, 4, 6, 7]), (8, [1, 2, 4, 6, 7]), (9, [1, 2, 4, 6, 7]), (10, [2, 4, 6]), (11, [4]), (12, [4, 6])], dp := look2 [(9, [[], [0], [], [2], [], [2, 3, 4], [2, 3, 4, 5], [2, 3, 4, 5, 6], [0, 1, 2, 3, 4, 5, 6, 7], [0, 1, 2, 3, 4, 5, 6, 7, 8], [0, 1, 2, 3, 4, 5, 6, 7, 8, 9]])] }
attribute [local push_cast] E18
set_option maxRecDepth 20000 in
set_option maxHeartbeats 1000000 in
theorem specUnpin (s : Store) (n : Str) (hs : okStore s) : Does Tryz.prog 18 [.ag (storeC false s), .sc (.string n)] (.tu [.ag (storeC true (unpinS s n).1), .sc (.int .i64 (unpinS s n).2)], []) := by
  refine does_of (E := E18) (rs := [.cell 4 26, .tmp 5]) (lent := []) tOk rfl Tryz.func18 rfl (by decide) rfl rfl (Nat.le_of_ble_eq_true rfl) (Nat.le_of_ble_eq_true rfl) ?_
  have hp := hs.2.1
  obtain ⟨M, hM⟩ : ∃ M, M = unpinS s n := ⟨_, rfl⟩
  rw [← hM]
  unfold unpinS at hM
  (simp -dsimp (disch := first | omega | (simp only [LR] <;> omega) | fail) only [push_cast, simprocAttr, -Nat.reduceSubDiff]) <;> (repeat (refine (aw_draw (by kernel_rfl)).2 ?_; simp -dsimp (disch := first | omega | (simp only [LR] <;> omega) | fail) only [push_cast, simprocAttr, -Nat.reduceSubDiff]))
  refine callC (specValidStore s hs) ?_
  cases hv : validSt s with
  | false =>
    rw [hv, Bool.false_and, if_pos rfl] at hM
    subst hM
    (simp -dsimp (disch := first | omega | (simp only [LR] <;> omega) | fail) only [push_cast, simprocAttr, -Nat.reduceSubDiff]) <;> (repeat (refine (aw_draw (by kernel_rfl)).2 ?_; simp -dsimp (disch := first | omega | (simp only [LR] <;> omega) | fail) only [push_cast, simprocAttr, -Nat.reduceSubDiff]))
    rfl
  | true =>
  by_cases hw : (n.size : Int) = s.w
  rotate_left
  · rw [if_pos (by simp [hw])] at hM
    subst hM
    (simp -dsimp (disch := first | omega | (simp only [hw, LR] <;> omega) | fail) only [push_cast, hw, simprocAttr, -Nat.reduceSubDiff]) <;> (repeat (refine (aw_draw (by kernel_rfl)).2 ?_; simp -dsimp (disch := first | omega | (simp only [hw, LR] <;> omega) | fail) only [push_cast, hw, simprocAttr, -Nat.reduceSubDiff]))
    rfl
  rw [if_neg (by simp [hv, hw])] at hM
  (simp -dsimp (disch := first | omega | (simp only [hw, LR] <;> omega) | fail) only [push_cast, hw, simprocAttr, -Nat.reduceSubDiff]) <;> (repeat (refine (aw_draw (by kernel_rfl)).2 ?_; simp -dsimp (disch := first | omega | (simp only [hw, LR] <;> omega) | fail) only [push_cast, hw, simprocAttr, -Nat.reduceSubDiff]))
  refine callC (l4Copy s hs) ?_
  (simp -dsimp (disch := first | omega | (simp only [LR] <;> omega) | fail) only [push_cast, simprocAttr, -Nat.reduceSubDiff]) <;> (repeat (refine (aw_draw (by kernel_rfl)).2 ?_; simp -dsimp (disch := first | omega | (simp only [LR] <;> omega) | fail) only [push_cast, simprocAttr, -Nat.reduceSubDiff]))
  refine loop_ind (α := Nat) (fun i => i ≤ s.P.length)
    (fun i => ⟨[(1, .sc (.string n)), (2, .pt 1 0 0), (4, .pt 2 0 0), (6, .pt 5 0 0), (7, .sc (.int .i64 i))],
      [(1, .bx (storeC false s)), (2, .bx [.sc (.int .i64 0), .sc (.int .i64 0), .ow 3 0 0, .ow 4 0 0]), (3, .ar 2 0 []), (4, .ar 1 0 []), (5, .bx [.sc (.int .i64 s.w), .sc (.int .i64 s.r), .ow 6 0 s.I.length, .ow 7 0 (woS (s.P.take i) n).length]), (6, .ar 2 0 (s.I.map (itemC true))), (7, .ar 1 0 ((woS (s.P.take i) n).map strR))], 8⟩) (fun i => s.P.length - i) 0 (Nat.zero_le _) ?_ ?_
  · simp -dsimp (disch := first | omega | (simp only [List.take_zero, woS, List.filter_nil, LR] <;> omega) | fail) only [push_cast, List.take_zero, woS, List.filter_nil, simprocAttr, -Nat.reduceSubDiff]
  intro i hi ih
  have hwl := woS_len (s.P.take i) n
  rw [List.length_take] at hwl
  by_cases h : i < s.P.length
  · obtain ⟨x, hx⟩ := ex_get h
    have hst := woS_take (n := n) hx
    generalize woS (s.P.take i) n = W at *
    by_cases e : x = n
    · rw [if_pos e] at hst
      (simp -dsimp (disch := first | omega | (simp only [h, hx, e, LR] <;> omega) | fail) only [push_cast, h, hx, e, simprocAttr, -Nat.reduceSubDiff]) <;> (repeat (refine (aw_draw (by kernel_rfl)).2 ?_; simp -dsimp (disch := first | omega | (simp only [h, hx, e, LR] <;> omega) | fail) only [push_cast, h, hx, e, simprocAttr, -Nat.reduceSubDiff]))
      refine ih (i + 1) _ (by omega) h ?_
      rw [hst]
      simp -dsimp (disch := first | omega | (simp only [wr_id, LR] <;> omega) | fail) only [push_cast, wr_id, simprocAttr, -Nat.reduceSubDiff]
    · rw [if_neg e] at hst
      (simp -dsimp (disch := first | omega | (simp only [h, hx, e, LR] <;> omega) | fail) only [push_cast, h, hx, e, simprocAttr, -Nat.reduceSubDiff]) <;> (repeat (refine (aw_draw (by kernel_rfl)).2 ?_; simp -dsimp (disch := first | omega | (simp only [h, hx, e, LR] <;> omega) | fail) only [push_cast, h, hx, e, simprocAttr, -Nat.reduceSubDiff]))
      refine ih (i + 1) _ (by omega) h ?_
      rw [hst]
      simp -dsimp (disch := first | omega | (simp only [wr_id, List.map_append, List.length_append, List.length_cons, List.length_nil, List.map_cons, List.map_nil, LR] <;> omega) | fail) only [push_cast, wr_id, List.map_append, List.length_append, List.length_cons, List.length_nil, List.map_cons, List.map_nil, simprocAttr, -Nat.reduceSubDiff]
  · rw [show s.P.take i = s.P from List.take_of_length_le (by omega)]
    by_cases e : (woS s.P n).length = s.P.length
    · rw [if_pos e] at hM
      subst hM
      (simp -dsimp (disch := first | omega | (simp only [h, e, LR] <;> omega) | fail) only [push_cast, h, e, simprocAttr, -Nat.reduceSubDiff]) <;> (repeat (refine (aw_draw (by kernel_rfl)).2 ?_; simp -dsimp (disch := first | omega | (simp only [h, e, LR] <;> omega) | fail) only [push_cast, h, e, simprocAttr, -Nat.reduceSubDiff]))
      rfl
    · rw [if_neg e] at hM
      subst hM
      (simp -dsimp (disch := first | omega | (simp only [h, e, LR] <;> omega) | fail) only [push_cast, h, e, simprocAttr, -Nat.reduceSubDiff]) <;> (repeat (refine (aw_draw (by kernel_rfl)).2 ?_; simp -dsimp (disch := first | omega | (simp only [h, e, LR] <;> omega) | fail) only [push_cast, h, e, simprocAttr, -Nat.reduceSubDiff]))
end Go.Proofs.YtkkmgjhfjhcdmaaGreatDoor.Mx

/- Drawn stores: what calls leave of a store; drawn by calls. -/
namespace Go.Proofs.YtkkmgjhfjhcdmaaGreatDoor.Mx
set_option linter.all false
open Go Go.RowKit Go.Proofs
set_option linter.unusedSimpArgs false
theorem put_wP {s : Store} {t : Str} {now : Int} (h : (putF s t now).2 = 0) : (putF s t now).1.w = s.w ∧ (putF s t now).1.r = s.r ∧ (putF s t now).1.P = s.P := by
  unfold putF at h ⊢
  split at h
  · cases h
  · rename_i h1
    rw [if_neg h1]
    split at h
    · rename_i h2
      rw [if_pos h2]
      split at h
      · rename_i h3; rw [if_pos h3]; exact ⟨rfl, rfl, rfl⟩
      · cases h
    · rename_i h2
      rw [if_neg h2]
      split at h
      · cases h
      · rename_i J hJ
        exact ⟨rfl, rfl, rfl⟩
theorem put_len {s : Store} {t : Str} {now : Int} (h : (putF s t now).2 = 0) (hl : s.I.length ≤ 1000) : (putF s t now).1.I.length ≤ 1000 := by
  unfold putF at h ⊢
  split at h
  · cases h
  · rename_i h1
    rw [if_neg h1]
    split at h
    · rename_i h2
      rw [if_pos h2]
      split at h
      · rename_i h3; rw [if_pos h3]; show (s.I.set _ _).length ≤ 1000; rw [List.length_set]; exact hl
      · cases h
    · rename_i h2
      rw [if_neg h2]
      split at h
      · cases h
      · rename_i J hJ
        have h4 := evF_fit hJ
        have h3 := rk_le (sumsI s.w J) (sumS t s.w)
        rw [show (sumsI s.w J).length = J.length by unfold sumsI; rw [List.length_map]] at h3
        show (insAt _ _ _).length ≤ 1000
        rw [insAt_len h3]; omega
theorem puts_len {now : Int} : ∀ {L : List Str} {s : Store}, (putsF now s L).2 = 0 → s.I.length ≤ 1000 → (putsF now s L).1.I.length ≤ 1000
  | [], _, _, hl => hl
  | t :: r, s, h, hl => by
    rw [putsF] at h ⊢
    by_cases h0 : (putF s t now).2 = 0
    · rw [if_pos h0] at h ⊢
      exact puts_len h (put_len h0 hl)
    · rw [if_neg h0] at h; exact (h0 h).elim
theorem puts_wP {now : Int} : ∀ {L : List Str} {s : Store}, (putsF now s L).2 = 0 → (putsF now s L).1.w = s.w ∧ (putsF now s L).1.r = s.r ∧ (putsF now s L).1.P = s.P
  | [], _, _ => ⟨rfl, rfl, rfl⟩
  | t :: r, s, h => by
    rw [putsF] at h ⊢
    by_cases h0 : (putF s t now).2 = 0
    · rw [if_pos h0] at h ⊢
      have h1 := put_wP h0
      have h2 := puts_wP h
      exact ⟨h2.1.trans h1.1, h2.2.1.trans h1.2.1, h2.2.2.trans h1.2.2⟩
    · rw [if_neg h0] at h; exact (h0 h).elim
theorem pin_wP {s : Store} {n : Str} (h : (pinS s n).2 = 0) : (pinS s n).1.w = s.w ∧ (pinS s n).1.r = s.r ∧ (pinS s n).1.I = s.I ∧ (pinS s n).1.P = addS s.P n ∧ (pinS s n).1.P.length ≤ 10 ∧ validSt s = true ∧ (n.size : Int) = s.w := by
  unfold pinS at h ⊢
  split at h
  · cases h
  · rename_i h1
    rw [if_neg h1]
    have hv : validSt s = true ∧ (n.size : Int) = s.w := by
      cases a : validSt s with
      | false => rw [a] at h1; simp at h1
      | true =>
        rw [a] at h1
        exact ⟨rfl, by simpa using h1⟩
    have hP := valid_P hv.1
    split at h
    · rename_i h2
      rw [if_pos h2]
      exact ⟨rfl, rfl, rfl, by unfold addS; rw [h2]; rfl, hP, hv⟩
    · rename_i h2
      rw [if_neg h2]
      split at h
      · cases h
      · rename_i h3
        rw [if_neg h3]
        have := (addS_len s.P n).1
        exact ⟨rfl, rfl, rfl, rfl, by show (addS s.P n).length ≤ 10; omega, hv⟩
theorem save_split {s : Store} {t : Str} {now : Int} (h : (saveF s t now).2 = 0) : (pinS s (nameS t s.w)).2 = 0 ∧ (putsF now (pinS s (nameS t s.w)).1 (partsL t s.w)).2 = 0 ∧ saveF s t now = putsF now (pinS s (nameS t s.w)).1 (partsL t s.w) ∧ t.size ≤ 3000 ∧ validSt s = true := by
  unfold saveF at h ⊢
  split at h
  · cases h
  · rename_i h1
    rw [if_neg h1]
    have hv : validSt s = true ∧ t.size ≤ 3000 := by
      cases a : validSt s with
      | false => rw [a] at h1; simp at h1
      | true =>
        rw [a] at h1
        refine ⟨rfl, ?_⟩
        by_cases q : t.size ≤ 3000
        · exact q
        · rw [show decide (t.size ≤ 3000) = false from decide_eq_false q] at h1; simp at h1
    split at h
    · rename_i h2
      rw [if_pos h2]
      exact ⟨h2, h, rfl, hv.2, hv.1⟩
    · rename_i h2; exact (h2 h).elim
/-- what is said of drawn stores -/
def gS (s : Store) : Prop := okStore s ∧ s.P.length ≤ 10 ∧ 1 ≤ s.w ∧ s.w ≤ 8 ∧ s.I.length ≤ 1000
theorem put_g {s : Store} {t : Str} {now : Int} (hs : gS s) (ht : t.size ≤ 2097152) (h : (putF s t now).2 = 0) : gS (putF s t now).1 := by
  obtain ⟨a, b, c⟩ := put_wP h
  exact ⟨put_ok hs.1 ht, by rw [c]; exact hs.2.1, by rw [a]; exact hs.2.2.1, by rw [a]; exact hs.2.2.2.1, put_len h hs.2.2.2.2⟩
theorem save_g {s : Store} {t : Str} {now : Int} (hs : gS s) (h : (saveF s t now).2 = 0) : gS (saveF s t now).1 := by
  have ho := save_ok (t := t) (now := now) hs.1
  obtain ⟨h1, h2, h3, _⟩ := save_split h
  obtain ⟨a, _, b, _, d, _⟩ := pin_wP h1
  obtain ⟨e, _, f⟩ := puts_wP h2
  rw [h3] at ho ⊢
  exact ⟨ho, by rw [f]; exact d, by rw [e, a]; exact hs.2.2.1, by rw [e, a]; exact hs.2.2.2.1, puts_len h2 (by rw [b]; exact hs.2.2.2.2)⟩
theorem unpin_g {s : Store} {n : Str} (hs : gS s) (h : (unpinS s n).2 = 0) : gS (unpinS s n).1 := by
  unfold unpinS at h ⊢
  split at h
  · cases h
  · rename_i h1
    rw [if_neg h1]
    split at h
    · cases h
    · rename_i h2
      rw [if_neg h2]
      have hl := woS_len s.P n
      exact ⟨⟨hs.1.1, ⟨by have := hs.1.2.1; show (woS s.P n).length ≤ _; omega, fun a ha => hs.1.2.2 a ((List.mem_filter.1 ha).1)⟩⟩, by have := hs.2.1; show (woS s.P n).length ≤ 10; omega, hs.2.2⟩
def stR (c : List Int) (p K : Int) (r : Ans) : Prop := ∃ (s : Store) (p' : Int), r = (.ag (storeC true s), [some (.pb true (rdC1 c p'))]) ∧ gS s ∧ p ≤ p' ∧ p' ≤ p + K
def E109 : Env := { T := T0, kp := look [(0, [0]), (1, [0, 2]), (2, [0, 2, 3]), (3, [0, 2, 3, 4]), (4, [0, 2, 3, 4]), (5, [0, 2, 3, 4]), (6, [0, 2, 3, 4, 5]), (7, [0, 2, 3, 4, 5]), (8, [0, 2, 3, 4, 5]), (9, [0, 2, 3, 4, 5, 6]), (10, [0, 2, 3, 4, 5, 6, 7]), (11, [0, 2, 3, 4, 5, 6]), (12, [0, 2, 3, 4, 5, 6, 7, 31]), (13, [0, 2, 3, 4, 5, 6]), (14, [0, 2, 3, 4, 5, 6, 7, 31]), (15, [0, 2, 3, 4, 6, 7]), (16, [0, 2, 3, 4, 6]), (17, [0, 2, 3, 4, 6, 7]), (18, [0, 2, 3, 4, 6]), (19, [0, 2, 3])], dp := look2 [(11, [[], [], [], [2], [0, 1, 2, 3], [0, 1, 2, 3, 4], [0, 1, 2, 3, 4, 5], [0, 1, 2, 3, 4, 5], [0, 1, 2, 3, 4, 5, 6], [0, 1, 2, 3, 4, 5, 6, 7, 8]]), (13, [[], [], [], [2], [0, 1, 2, 3], [0, 1, 2, 3, 4], [0, 1, 2, 3, 4, 5], [0, 1, 2, 3, 4, 5], [0, 1, 2, 3, 4, 5, 6], [0, 1, 2, 3, 4, 5, 6, 7, 8]]), (16, [[], [], [1], [], [], [4], [4, 5], [3, 4, 5, 6], [1, 2, 3, 4, 5, 6, 7], [1, 2, 3, 4, 5, 6, 7, 8], [0, 1, 2, 3, 4, 5, 6, 7, 8, 9], [0, 1, 2, 3, 4, 5, 6, 7, 8, 9, 10], [0, 1, 2, 3, 4, 5, 6, 7, 8, 9, 10, 11], [0, 1, 2, 3, 4, 5, 6, 7, 8, 9, 10, 11], [0, 1, 2, 3, 4, 5, 6, 7, 8, 9, 10, 11, 12], [0, 1, 2, 3, 4, 5, 6, 7, 8, 9, 10, 11, 12, 13, 14]])], md := look3 [(1, 1, [1, 0, 0]), (1, 4, [1, 0]), (2, 1, [1, 0]), (5, 1, [1]), (10, 1, [1, 0]), (11, 3, [1, 0]), (13, 3, [1, 0]), (16, 7, [1, 0])] }
attribute [local push_cast] E109
set_option maxRecDepth 20000 in
set_option maxHeartbeats 4000000 in
theorem l4Draw (c : List Int) (p : Int) (hc : okCode c) (hp : 0 ≤ p) (hp2 : p ≤ 9000) : ∃ r, stR c p 100 r ∧ Does Tryz.prog 109 [.pb true (rdC1 c p)] r := by
  refine does_ex (E := E109) (rs := [.cell 2 26]) (lent := [true]) tOk rfl Tryz.func109 rfl (by decide) rfl rfl (Nat.le_of_ble_eq_true rfl) (Nat.le_of_ble_eq_true rfl) ?_
  (simp -dsimp (disch := first | omega | (simp only [LR] <;> omega) | fail) only [push_cast, simprocAttr, -Nat.reduceSubDiff]) <;> (repeat (refine ex_draw (by kernel_rfl) ?_; simp -dsimp (disch := first | omega | (simp only [LR] <;> omega) | fail) only [push_cast, simprocAttr, -Nat.reduceSubDiff]))
  refine ex_some (l1DrawWidth c p hc hp (by omega)) ?_
  rintro _ ⟨w, rfl, hw1, hw8⟩
  obtain ⟨k, hk, hd⟩ := pick_nat c (p + 1) 6 hc (by omega) (by omega) (by omega) (by omega)
  (simp -dsimp (disch := first | omega | (simp only [lrep6, LR] <;> omega) | fail) only [push_cast, lrep6, simprocAttr, -Nat.reduceSubDiff]) <;> (repeat (refine ex_draw (by kernel_rfl) ?_; simp -dsimp (disch := first | omega | (simp only [lrep6, LR] <;> omega) | fail) only [push_cast, lrep6, simprocAttr, -Nat.reduceSubDiff]))
  refine ex_call hd ?_
  clear hd
  have hr : ∃ R : Int, ([[AV.sc (.int .i64 0)], [.sc (.int .i64 100)], [.sc (.int .i64 800)], [.sc (.int .i64 2000)], [.sc (.int .i64 6000)], [.sc (.int .i64 60000)]] : List Row)[k]? = some [.sc (.int .i64 R)] := by
    rcases (show k = 0 ∨ k = 1 ∨ k = 2 ∨ k = 3 ∨ k = 4 ∨ k = 5 by omega) with rfl | rfl | rfl | rfl | rfl | rfl <;> exact ⟨_, rfl⟩
  obtain ⟨R, hR⟩ := hr
  obtain ⟨m, hm, hd⟩ := pick_nat c (p + 1 + 1) 6 hc (by omega) (by omega) (by omega) (by omega)
  (simp -dsimp (disch := first | omega | (simp only [lrep6, hR, LR] <;> omega) | fail) only [push_cast, lrep6, hR, simprocAttr, -Nat.reduceSubDiff]) <;> (repeat (refine ex_draw (by kernel_rfl) ?_; simp -dsimp (disch := first | omega | (simp only [lrep6, hR, LR] <;> omega) | fail) only [push_cast, lrep6, hR, simprocAttr, -Nat.reduceSubDiff]))
  refine ex_call hd ?_
  clear hd
  (simp -dsimp (disch := first | omega | (simp only [LR] <;> omega) | fail) only [push_cast, simprocAttr, -Nat.reduceSubDiff]) <;> (repeat (refine ex_draw (by kernel_rfl) ?_; simp -dsimp (disch := first | omega | (simp only [LR] <;> omega) | fail) only [push_cast, simprocAttr, -Nat.reduceSubDiff]))
  refine ex_loop (α := Nat × Store × Int) (fun q => q.1 ≤ m ∧ gS q.2.1 ∧ p ≤ q.2.2 ∧ q.2.2 + 12 * q.1 ≤ p + 3 + 12 * m)
    (fun q => ⟨[(0, .pt 1 0 0), (2, .pt 2 0 0), (3, .pt 5 0 0), (4, .sc (.int .i64 q.1))],
      [(1, .bx (rdC1 c q.2.2)), (2, .bx [.sc (.int .i64 0), .sc (.int .i64 0), .ow 3 0 0, .ow 4 0 0]), (3, .ar 2 0 []), (4, .ar 1 0 []), (5, .bx [.sc (.int .i64 q.2.1.w), .sc (.int .i64 q.2.1.r), .ow 6 0 q.2.1.I.length, .ow 7 0 q.2.1.P.length]), (6, .ar 2 0 (q.2.1.I.map (itemC true))), (7, .ar 1 0 (q.2.1.P.map strR))], 8⟩)
    (fun q => q.1) (m, ⟨w, R, [], []⟩, p + 1 + 1 + 1) ⟨Nat.le_refl _, ⟨⟨⟨Nat.zero_le _, fun a h => by cases h⟩, ⟨Nat.zero_le _, fun a h => by cases h⟩⟩, Nat.zero_le _, hw1, hw8, Nat.zero_le _⟩, by simp only; omega, by simp only; omega⟩ ?_ ?_
  · simp -dsimp (disch := first | omega | (simp only [LR] <;> omega) | fail) only [push_cast, simprocAttr, -Nat.reduceSubDiff]
  rintro ⟨n, s, j⟩ ⟨g1, g2, g3, g4⟩ ih
  replace g1 : n ≤ m := g1
  replace g2 : gS s := g2
  replace g3 : p ≤ j := g3
  replace g4 : j + 12 * n ≤ p + 3 + 12 * m := g4
  by_cases h : 0 < n
  rotate_left
  · (simp -dsimp (disch := first | omega | (simp only [h, LR] <;> omega) | fail) only [push_cast, h, simprocAttr, -Nat.reduceSubDiff]) <;> (repeat (refine ex_draw (by kernel_rfl) ?_; simp -dsimp (disch := first | omega | (simp only [h, LR] <;> omega) | fail) only [push_cast, h, simprocAttr, -Nat.reduceSubDiff]))
    refine ex_call (l4Copy s g2.1) ?_
    (simp -dsimp (disch := first | omega | (simp only [LR] <;> omega) | fail) only [push_cast, simprocAttr, -Nat.reduceSubDiff]) <;> (repeat (refine ex_draw (by kernel_rfl) ?_; simp -dsimp (disch := first | omega | (simp only [LR] <;> omega) | fail) only [push_cast, simprocAttr, -Nat.reduceSubDiff]))
    exact ⟨_, ⟨s, j, rfl, g2, g3, by omega⟩, rfl⟩
  have en : wr .i64 ((n : Int) - 1) = ((n - 1 : Nat) : Int) := by rw [wr_id (by omega) (by omega)]; omega
  (simp -dsimp (disch := first | omega | (simp only [h, LR] <;> omega) | fail) only [push_cast, h, simprocAttr, -Nat.reduceSubDiff]) <;> (repeat (refine ex_draw (by kernel_rfl) ?_; simp -dsimp (disch := first | omega | (simp only [h, LR] <;> omega) | fail) only [push_cast, h, simprocAttr, -Nat.reduceSubDiff]))
  refine ex_some (l2Thing c j hc (by omega) (by omega)) ?_
  rintro _ ⟨t, i, rfl, ht, hi1, hi2⟩
  have key : ∀ j' : Int, p ≤ j' → j' ≤ j + 12 → ∀ s', gS s' → (fun q : Nat × Store × Int => q.1 ≤ m ∧ gS q.2.1 ∧ p ≤ q.2.2 ∧ q.2.2 + 12 * q.1 ≤ p + 3 + 12 * m) (n - 1, s', j') := fun j' a b s' hg => ⟨by show n - 1 ≤ m; omega, hg, a, by show j' + 12 * ((n - 1 : Nat) : Int) ≤ p + 3 + 12 * m; omega⟩
  have hlt : (fun q : Nat × Store × Int => q.1) (n - 1, s, j) < n := by show n - 1 < n; omega
  have hT : ∃ T, T = t ∧ ¬ 400 < T.size ∨ T = t.extract 0 400 ∧ 400 < t.size := by
    by_cases q : 400 < t.size
    · exact ⟨_, .inr ⟨rfl, q⟩⟩
    · exact ⟨_, .inl ⟨rfl, q⟩⟩
  have hP10 := g2.2.1
  obtain ⟨T, hT⟩ := hT
  rcases hT with ⟨e, h4⟩ | ⟨e, h4⟩
  all_goals
    (simp -dsimp (disch := first | omega | (simp only [← e, LR] <;> omega) | fail) only [push_cast, ← e, simprocAttr, -Nat.reduceSubDiff]) <;> (repeat (refine ex_draw (by kernel_rfl) ?_; simp -dsimp (disch := first | omega | (simp only [← e, LR] <;> omega) | fail) only [push_cast, ← e, simprocAttr, -Nat.reduceSubDiff]))
    have hTs : T.size ≤ 10000 := by
      have := ext_le t 0 400
      rw [e]; omega
    clear e
    obtain ⟨k, hk, hd⟩ := pick_nat c i 5 hc (by omega) (by omega) (by omega) (by omega)
    refine ex_call hd ?_
    clear hd
    by_cases k0 : k = 0
    · subst k0
      obtain ⟨d, hd0, hd⟩ := pick_nat c (i + 1) 50 hc (by omega) (by omega) (by omega) (by omega)
      (simp -dsimp (disch := first | omega | (simp only [LR] <;> omega) | fail) only [push_cast, simprocAttr, -Nat.reduceSubDiff]) <;> (repeat (refine ex_draw (by kernel_rfl) ?_; simp -dsimp (disch := first | omega | (simp only [LR] <;> omega) | fail) only [push_cast, simprocAttr, -Nat.reduceSubDiff]))
      refine ex_call hd ?_
      (simp -dsimp (disch := first | omega | (simp only [LR] <;> omega) | fail) only [push_cast, simprocAttr, -Nat.reduceSubDiff]) <;> (repeat (refine ex_draw (by kernel_rfl) ?_; simp -dsimp (disch := first | omega | (simp only [LR] <;> omega) | fail) only [push_cast, simprocAttr, -Nat.reduceSubDiff]))
      refine ex_call (specPut s T d g2.1 (by omega)) ?_
      have hg := put_g (now := (d : Int)) (t := T) g2 (by omega)
      generalize putF s T d = Q at *
      obtain ⟨o, e⟩ := Q
      by_cases e0 : e = 0
      · subst e0
        (simp -dsimp (disch := first | omega | (simp only [LR] <;> omega) | fail) only [push_cast, simprocAttr, -Nat.reduceSubDiff]) <;> (repeat (refine ex_draw (by kernel_rfl) ?_; simp -dsimp (disch := first | omega | (simp only [LR] <;> omega) | fail) only [push_cast, simprocAttr, -Nat.reduceSubDiff]))
        refine ih (n - 1, o, i + 1 + 1) _ hlt (key _ (by omega) (by omega) _ (hg rfl)) ?_
        simp -dsimp (disch := first | omega | (simp only [en, LR] <;> omega) | fail) only [push_cast, en, simprocAttr, -Nat.reduceSubDiff]
      · (simp -dsimp (disch := first | omega | (simp only [e0, LR] <;> omega) | fail) only [push_cast, e0, simprocAttr, -Nat.reduceSubDiff]) <;> (repeat (refine ex_draw (by kernel_rfl) ?_; simp -dsimp (disch := first | omega | (simp only [e0, LR] <;> omega) | fail) only [push_cast, e0, simprocAttr, -Nat.reduceSubDiff]))
        refine ih (n - 1, s, i + 1 + 1) _ hlt (key _ (by omega) (by omega) _ g2) ?_
        simp -dsimp (disch := first | omega | (simp only [en, LR] <;> omega) | fail) only [push_cast, en, simprocAttr, -Nat.reduceSubDiff]
    by_cases k1 : k = 1
    · subst k1
      by_cases hP : 0 < s.P.length
      · obtain ⟨d, hd0, hd⟩ := pick_nat c (i + 1) s.P.length hc (by omega) (by omega) (by omega) (by omega)
        (simp -dsimp (disch := first | omega | (simp only [LR] <;> omega) | fail) only [push_cast, simprocAttr, -Nat.reduceSubDiff]) <;> (repeat (refine ex_draw (by kernel_rfl) ?_; simp -dsimp (disch := first | omega | (simp only [LR] <;> omega) | fail) only [push_cast, simprocAttr, -Nat.reduceSubDiff]))
        refine ex_call hd ?_
        obtain ⟨x, hx⟩ := ex_get (show d < s.P.length by omega)
        (simp -dsimp (disch := first | omega | (simp only [hx, LR] <;> omega) | fail) only [push_cast, hx, simprocAttr, -Nat.reduceSubDiff]) <;> (repeat (refine ex_draw (by kernel_rfl) ?_; simp -dsimp (disch := first | omega | (simp only [hx, LR] <;> omega) | fail) only [push_cast, hx, simprocAttr, -Nat.reduceSubDiff]))
        refine ex_call (specUnpin s x g2.1) ?_
        have hg := unpin_g (n := x) g2
        generalize unpinS s x = Q at *
        obtain ⟨o, e⟩ := Q
        by_cases e0 : e = 0
        · subst e0
          (simp -dsimp (disch := first | omega | (simp only [hx, LR] <;> omega) | fail) only [push_cast, hx, simprocAttr, -Nat.reduceSubDiff]) <;> (repeat (refine ex_draw (by kernel_rfl) ?_; simp -dsimp (disch := first | omega | (simp only [hx, LR] <;> omega) | fail) only [push_cast, hx, simprocAttr, -Nat.reduceSubDiff]))
          refine ih (n - 1, o, i + 1 + 1) _ hlt (key _ (by omega) (by omega) _ (hg rfl)) ?_
          simp -dsimp (disch := first | omega | (simp only [en, LR] <;> omega) | fail) only [push_cast, en, simprocAttr, -Nat.reduceSubDiff]
        · (simp -dsimp (disch := first | omega | (simp only [hx, e0, LR] <;> omega) | fail) only [push_cast, hx, e0, simprocAttr, -Nat.reduceSubDiff]) <;> (repeat (refine ex_draw (by kernel_rfl) ?_; simp -dsimp (disch := first | omega | (simp only [hx, e0, LR] <;> omega) | fail) only [push_cast, hx, e0, simprocAttr, -Nat.reduceSubDiff]))
          refine ih (n - 1, s, i + 1 + 1) _ hlt (key _ (by omega) (by omega) _ g2) ?_
          simp -dsimp (disch := first | omega | (simp only [en, LR] <;> omega) | fail) only [push_cast, en, simprocAttr, -Nat.reduceSubDiff]
      · (simp -dsimp (disch := first | omega | (simp only [LR] <;> omega) | fail) only [push_cast, simprocAttr, -Nat.reduceSubDiff]) <;> (repeat (refine ex_draw (by kernel_rfl) ?_; simp -dsimp (disch := first | omega | (simp only [LR] <;> omega) | fail) only [push_cast, simprocAttr, -Nat.reduceSubDiff]))
        refine ih (n - 1, s, i + 1) _ hlt (key _ (by omega) (by omega) _ g2) ?_
        simp -dsimp (disch := first | omega | (simp only [en, LR] <;> omega) | fail) only [push_cast, en, simprocAttr, -Nat.reduceSubDiff]
    obtain ⟨d, hd0, hd⟩ := pick_nat c (i + 1) 50 hc (by omega) (by omega) (by omega) (by omega)
    (simp -dsimp (disch := first | omega | (simp only [k0, k1, LR] <;> omega) | fail) only [push_cast, k0, k1, simprocAttr, -Nat.reduceSubDiff]) <;> (repeat (refine ex_draw (by kernel_rfl) ?_; simp -dsimp (disch := first | omega | (simp only [k0, k1, LR] <;> omega) | fail) only [push_cast, k0, k1, simprocAttr, -Nat.reduceSubDiff]))
    refine ex_call hd ?_
    (simp -dsimp (disch := first | omega | (simp only [LR] <;> omega) | fail) only [push_cast, simprocAttr, -Nat.reduceSubDiff]) <;> (repeat (refine ex_draw (by kernel_rfl) ?_; simp -dsimp (disch := first | omega | (simp only [LR] <;> omega) | fail) only [push_cast, simprocAttr, -Nat.reduceSubDiff]))
    refine ex_call (specSave s T d g2.1 (by omega)) ?_
    have hg := save_g (now := (d : Int)) (t := T) g2
    generalize saveF s T d = Q at *
    obtain ⟨o, e⟩ := Q
    by_cases e0 : e = 0
    · subst e0
      (simp -dsimp (disch := first | omega | (simp only [LR] <;> omega) | fail) only [push_cast, simprocAttr, -Nat.reduceSubDiff]) <;> (repeat (refine ex_draw (by kernel_rfl) ?_; simp -dsimp (disch := first | omega | (simp only [LR] <;> omega) | fail) only [push_cast, simprocAttr, -Nat.reduceSubDiff]))
      refine ih (n - 1, o, i + 1 + 1) _ hlt (key _ (by omega) (by omega) _ (hg rfl)) ?_
      simp -dsimp (disch := first | omega | (simp only [en, LR] <;> omega) | fail) only [push_cast, en, simprocAttr, -Nat.reduceSubDiff]
    · (simp -dsimp (disch := first | omega | (simp only [e0, LR] <;> omega) | fail) only [push_cast, e0, simprocAttr, -Nat.reduceSubDiff]) <;> (repeat (refine ex_draw (by kernel_rfl) ?_; simp -dsimp (disch := first | omega | (simp only [e0, LR] <;> omega) | fail) only [push_cast, e0, simprocAttr, -Nat.reduceSubDiff]))
      refine ih (n - 1, s, i + 1 + 1) _ hlt (key _ (by omega) (by omega) _ g2) ?_
      simp -dsimp (disch := first | omega | (simp only [en, LR] <;> omega) | fail) only [push_cast, en, simprocAttr, -Nat.reduceSubDiff]
end Go.Proofs.YtkkmgjhfjhcdmaaGreatDoor.Mx

/- Stores stay valid; what is needed stays: pure. -/
namespace Go.Proofs.YtkkmgjhfjhcdmaaGreatDoor.Mx
set_option linter.all false
open Go Go.RowKit
theorem lts_total {a b : Str} (h1 : lts a b = false) (h2 : a ≠ b) : lts b a = true := by
  rw [lts_def] at *
  have h1 := of_decide_eq_false h1
  refine decide_eq_true ?_
  apply Classical.byContradiction
  intro h3
  exact h2 (str_ext (List.le_antisymm (List.not_lt.1 h3) (List.not_lt.1 h1)))
abbrev ltsP (a b : Str) : Prop := lts a b = true
theorem pw_ins {l : List Str} {u : Str} (h : l.Pairwise ltsP) (hn : u ∉ l) : (l.take (rk l u) ++ u :: l.drop (rk l u)).Pairwise ltsP := by
  have h0 : ∀ x ∈ l.take (rk l u), ltsP x u := fun x hx => by
    obtain ⟨i, hi⟩ := List.mem_iff_getElem?.1 hx
    have hlt := idx_lt hi
    rw [List.length_take] at hlt
    rw [List.getElem?_take_of_lt (by omega)] at hi
    obtain ⟨y, hy, hy2⟩ := rk_all (show i < rk l u by omega)
    rw [hi] at hy; cases hy; exact hy2
  have hs := h
  rw [← List.take_append_drop (rk l u) l] at hs
  obtain ⟨ha, hb, hab⟩ := List.pairwise_append.1 hs
  have h1 : ∀ x ∈ l.drop (rk l u), ltsP u x := fun x hx => by
    have hne : u ≠ x := fun e => hn (e ▸ List.mem_of_mem_drop hx)
    obtain ⟨y, hy⟩ : ∃ y, l[rk l u]? = some y := by
      obtain ⟨i, hi⟩ := List.mem_iff_getElem?.1 hx
      have := idx_lt hi
      rw [List.length_drop] at this
      exact ex_get (by omega)
    have hst := rk_stop hy
    have hyn : y ≠ u := fun e => hn (e ▸ List.mem_of_getElem? hy)
    have huy := lts_total hst hyn
    rw [drop_step hy] at hx hb
    rcases List.mem_cons.1 hx with rfl | hx
    · exact huy
    · exact lts_trans huy ((List.pairwise_cons.1 hb).1 x hx)
  refine List.pairwise_append.2 ⟨ha, List.pairwise_cons.2 ⟨h1, hb⟩, fun x hx y hy => ?_⟩
  rcases List.mem_cons.1 hy with rfl | hy
  · exact h0 x hx
  · exact hab x hx y hy
def okIt (x : Item) : Bool := inB x.t.size 1 7000 && inB x.u 0 1000000
theorem it_iff (w : Int) : ∀ (I : List Item) (p : Option Str), itF w p I = true ↔ (∀ x ∈ I, okIt x = true) ∧ (sumsI w I).Pairwise ltsP ∧ ∀ x ∈ I, aft p (sumS x.t w) = true
  | [], p => by simp [itF, sumsI]
  | a :: r, p => by
    rw [itF]
    simp only [Bool.and_eq_true]
    rw [it_iff w r, show sumsI w (a :: r) = sumS a.t w :: sumsI w r from rfl, List.pairwise_cons]
    constructor
    · rintro ⟨⟨⟨h1, h2⟩, h3⟩, h4, h5, h6⟩
      refine ⟨fun x hx => ?_, ⟨fun y hy => ?_, h5⟩, fun x hx => ?_⟩
      · rcases List.mem_cons.1 hx with rfl | hx
        · unfold okIt; rw [h1, h2]; rfl
        · exact h4 x hx
      · obtain ⟨x, hx, rfl⟩ := List.mem_map.1 hy
        exact h6 x hx
      · rcases List.mem_cons.1 hx with rfl | hx
        · exact h3
        · cases p with
          | none => rfl
          | some q => exact lts_trans h3 (h6 x hx)
    · rintro ⟨h1, ⟨h2, h3⟩, h4⟩
      have ha := h1 a (by simp)
      unfold okIt at ha
      rw [Bool.and_eq_true] at ha
      exact ⟨⟨⟨ha.1, ha.2⟩, h4 a (by simp)⟩, fun x hx => h1 x (by simp [hx]), h3, fun x hx => h2 _ (List.mem_map.2 ⟨x, hx, rfl⟩)⟩
theorem asc_iff (w : Int) : ∀ (P : List Str) (p : Option Str), ascF w p P = true ↔ (∀ x ∈ P, (x.size : Int) = w) ∧ P.Pairwise ltsP ∧ ∀ x ∈ P, aft p x = true
  | [], p => by simp [ascF]
  | a :: r, p => by
    rw [ascF]
    simp only [Bool.and_eq_true, decide_eq_true_eq]
    rw [asc_iff w r, List.pairwise_cons]
    constructor
    · rintro ⟨⟨h1, h3⟩, h4, h5, h6⟩
      refine ⟨fun x hx => ?_, ⟨fun y hy => h6 y hy, h5⟩, fun x hx => ?_⟩
      · rcases List.mem_cons.1 hx with rfl | hx
        · exact h1
        · exact h4 x hx
      · rcases List.mem_cons.1 hx with rfl | hx
        · exact h3
        · cases p with
          | none => rfl
          | some q => exact lts_trans h3 (h6 x hx)
    · rintro ⟨h1, ⟨h2, h3⟩, h4⟩
      exact ⟨⟨h1 a (by simp), h4 a (by simp)⟩, fun x hx => h1 x (by simp [hx]), h3, h2⟩
/-- a valid store, part by part -/
theorem valid_iff (s : Store) : validSt s = true ↔ (1 ≤ s.w ∧ s.w ≤ 8) ∧ (0 ≤ s.r ∧ s.r ≤ 60000) ∧ s.I.length ≤ 1000 ∧ s.P.length ≤ 10 ∧ (∀ x ∈ s.P, (x.size : Int) = s.w) ∧ s.P.Pairwise ltsP ∧
    (∀ x ∈ s.I, okIt x = true) ∧ (sumsI s.w s.I).Pairwise ltsP ∧ bytes s.I ≤ s.r := by
  unfold validSt
  simp only [Bool.and_eq_true, decide_eq_true_eq]
  rw [asc_iff, it_iff]
  constructor
  · rintro ⟨⟨⟨⟨⟨⟨h1, h2⟩, h3⟩, h4⟩, h5, h6, _⟩, h7, h8, _⟩, h9⟩
    exact ⟨of_decide_eq_true h1, of_decide_eq_true h2, h3, h4, h5, h6, h7, h8, h9⟩
  · rintro ⟨h1, h2, h3, h4, h5, h6, h7, h8, h9⟩
    exact ⟨⟨⟨⟨⟨⟨decide_eq_true h1, decide_eq_true h2⟩, h3⟩, h4⟩, h5, h6, fun _ _ => rfl⟩, h7, h8, fun _ _ => rfl⟩, h9⟩
/-- a text with its sum -/
def has (s : Store) (t : Str) : Prop := ∃ x ∈ s.I, x.t = t
theorem sums_inj {w : Int} : ∀ {I : List Item}, (sumsI w I).Pairwise ltsP → ∀ {x y : Item}, x ∈ I → y ∈ I → sumS x.t w = sumS y.t w → x = y
  | [], _, x, _, h, _, _ => by cases h
  | a :: r, h, x, y, hx0, hy0, e => by
    rw [show sumsI w (a :: r) = sumS a.t w :: sumsI w r from rfl, List.pairwise_cons] at h
    rcases List.mem_cons.1 hx0 with hx | hx <;> rcases List.mem_cons.1 hy0 with hy | hy
    · rw [hx, hy]
    · have := h.1 _ (List.mem_map.2 ⟨y, hy, rfl⟩)
      rw [hx] at e
      rw [ltsP, e, lts_irrefl] at this; cases this
    · have := h.1 _ (List.mem_map.2 ⟨x, hx, rfl⟩)
      rw [hy] at e
      rw [ltsP, e, lts_irrefl] at this; cases this
    · exact sums_inj h.2 hx hy e
theorem has_at {s : Store} {t : Str} (hv : validSt s = true) (h : has s t) : 0 ≤ atI s.w (sumS t s.w) s.I ∧ textAt s (sumS t s.w) = t ∧ ∃ (k : Nat) (x : Item), atI s.w (sumS t s.w) s.I = k ∧ s.I[k]? = some x ∧ x.t = t := by
  obtain ⟨x, hx, e⟩ := h
  have h0 : 0 ≤ atI s.w (sumS t s.w) s.I := by
    apply Classical.byContradiction
    intro hc
    have := at_neg.1 (show atI s.w (sumS t s.w) s.I < 0 by omega)
    have h2 : inL (s.I.map fun x => sumS x.t s.w) (sumS t s.w) = true := (inL_iff _ _).2 (List.mem_map.2 ⟨x, hx, by rw [e]⟩)
    rw [h2] at this; cases this
  obtain ⟨k, y, h1, h2, h3⟩ := at_get h0
  have hp := ((valid_iff s).1 hv).2.2.2.2.2.2.2.1
  have hxy := sums_inj hp (List.mem_of_getElem? h2) hx (by rw [h3, e])
  refine ⟨h0, ?_, k, y, h1, h2, by rw [hxy, e]⟩
  rw [textAt_some h1 h2, hxy, e]
theorem at_has {s : Store} {u : Str} (h : 0 ≤ atI s.w u s.I) : ∃ x ∈ s.I, sumS x.t s.w = u ∧ textAt s u = x.t := by
  obtain ⟨k, y, h1, h2, h3⟩ := at_get h
  exact ⟨y, List.mem_of_getElem? h2, h3, textAt_some h1 h2⟩
theorem best_free {w : Int} {N : List Str} {I : List Item} : ∀ (i k : Nat), bestF w N I i = k → ∃ x, I[k]? = some x ∧ inL N (sumS x.t w) = false
  | 0, k, h => by rw [bestF] at h; omega
  | i + 1, k, h => by
    rw [bestF] at h
    split at h
    · rename_i x hx
      split at h
      · rename_i hc
        have : i = k := by omega
        subst this
        exact ⟨x, hx, hc.1⟩
      · exact best_free i k h
    · exact best_free i k h
theorem rm_keep {α : Type} {l : List α} {k : Nat} {x y : α} (hx : l[k]? = some x) (hy : y ∈ l) (hne : y ≠ x) : y ∈ rmAt l k := by
  unfold rmAt
  rw [← List.take_append_drop k l, drop_step hx] at hy
  rcases List.mem_append.1 hy with q | q
  · exact List.mem_append.2 (.inl q)
  · rcases List.mem_cons.1 q with q | q
    · exact (hne q).elim
    · exact List.mem_append.2 (.inr q)
theorem evF_keep {w r : Int} {N : List Str} {sz : Int} : ∀ {I J : List Item}, evF w r N sz I = some J → ∀ y ∈ I, inL N (sumS y.t w) = true → y ∈ J := by
  intro I
  induction hn : I.length using Nat.strongRecOn generalizing I with
  | _ n ih =>
    intro J h y hy hin
    rw [evF] at h
    split at h
    · split at h
      · have h1 := best_rng w N I I.length
        have h2 := rmAt_len (l := I) (i := (bestF w N I I.length).toNat) (by omega)
        obtain ⟨x, hx, hf⟩ := best_free (w := w) (N := N) (I := I) I.length (bestF w N I I.length).toNat (by omega)
        refine ih _ (by omega) rfl h y (rm_keep hx hy fun e => ?_) hin
        rw [e, hf] at hin; cases hin
      · cases h
    · cases h; exact hy
theorem put_shape {s : Store} {t : Str} {now : Int} (h : (putF s t now).2 = 0) : (validSt s = true ∧ inB t.size 1 7000 = true ∧ inB now 0 1000000 = true) ∧
    ((∃ k x, s.I[k]? = some x ∧ x.t = t ∧ (putF s t now).1 = { s with I := s.I.set k ⟨t, now⟩ }) ∨
      (atI s.w (sumS t s.w) s.I < 0 ∧ ∃ J, evF s.w s.r (needL s) t.size s.I = some J ∧ (putF s t now).1 = { s with I := insAt J (rk (sumsI s.w J) (sumS t s.w)) ⟨t, now⟩ })) := by
  unfold putF at h ⊢
  split at h
  · cases h
  · rename_i h1
    rw [if_neg h1]
    have hv : validSt s = true ∧ inB t.size 1 7000 = true ∧ inB now 0 1000000 = true := by
      have := (Bool.not_eq_false _).mp h1
      simp only [Bool.and_eq_true] at this
      exact ⟨this.1.1, this.1.2, this.2⟩
    refine ⟨hv, ?_⟩
    split at h
    · rename_i h2
      rw [if_pos h2]
      split at h
      · rename_i h3
        rw [if_pos h3]
        obtain ⟨k, x, a1, a2, a3⟩ := at_get h2
        refine .inl ⟨k, x, a2, ?_, ?_⟩
        · rw [← textAt_some a1 a2]; exact h3
        · rw [a1, Int.toNat_natCast]
      · cases h
    · rename_i h2
      rw [if_neg h2]
      split at h
      · cases h
      · rename_i J hJ
        exact .inr ⟨by omega, J, hJ, rfl⟩
theorem sums_set {w : Int} {I : List Item} {k : Nat} {x : Item} {t : Str} {u : Int} (hx : I[k]? = some x) (e : x.t = t) : sumsI w (I.set k ⟨t, u⟩) = sumsI w I := by
  unfold sumsI
  rw [List.map_set]
  apply List.ext_getElem?
  intro i
  rw [List.getElem?_set]
  split
  · rename_i hi
    subst hi
    split
    · rw [List.getElem?_map, hx, ← e]; rfl
    · rename_i hl
      rw [List.length_map] at hl
      exact (hl (idx_lt hx)).elim
  · rfl
theorem bytes_set : ∀ {I : List Item} {k : Nat} {x : Item} {t : Str} {u : Int}, I[k]? = some x → x.t = t → bytes (I.set k ⟨t, u⟩) = bytes I
  | [], k, x, t, u, h, _ => by simp at h
  | a :: r, 0, x, t, u, h, e => by
    simp only [List.getElem?_cons_zero, Option.some.injEq] at h
    subst h
    rw [List.set_cons_zero, bytes, bytes, ← e]
  | a :: r, k + 1, x, t, u, h, e => by
    rw [List.set_cons_succ, bytes, bytes, bytes_set (by simpa using h) e]
theorem bytes_ins (I : List Item) (k : Nat) (x : Item) : bytes (insAt I k x) = bytes I + x.t.size := by
  have h := bytes_app (I.take k) (I.drop k)
  rw [List.take_append_drop] at h
  unfold insAt
  rw [bytes_app, bytes]; omega
theorem sums_ins (w : Int) (I : List Item) (k : Nat) (x : Item) : sumsI w (insAt I k x) = (sumsI w I).take k ++ sumS x.t w :: (sumsI w I).drop k := by
  unfold sumsI insAt
  rw [List.map_append, List.map_cons, List.map_take, List.map_drop]
theorem put_valid {s : Store} {t : Str} {now : Int} (h : (putF s t now).2 = 0) : validSt (putF s t now).1 = true := by
  obtain ⟨⟨hv, ht, hn⟩, hs⟩ := put_shape h
  have hV := (valid_iff s).1 hv
  obtain ⟨v1, v2, v3, v4, v5, v6, v7, v8, v9⟩ := hV
  have hok : okIt ⟨t, now⟩ = true := by unfold okIt; rw [ht, hn]; rfl
  rcases hs with ⟨k, x, hx, e, hp⟩ | ⟨h0, J, hJ, hp⟩
  · rw [hp, valid_iff]
    refine ⟨v1, v2, by show (s.I.set _ _).length ≤ _; rw [List.length_set]; exact v3, v4, v5, v6, fun y hy => ?_, ?_, ?_⟩
    · rcases List.mem_or_eq_of_mem_set hy with q | q
      · exact v7 y q
      · rw [q]; exact hok
    · show (sumsI s.w (s.I.set _ _)).Pairwise _
      rw [sums_set hx e]; exact v8
    · show bytes (s.I.set _ _) ≤ _
      rw [bytes_set hx e]; exact v9
  · have hsub := evF_sub hJ
    have hfit := evF_fit hJ
    have hrk := rk_le (sumsI s.w J) (sumS t s.w)
    rw [show (sumsI s.w J).length = J.length by unfold sumsI; rw [List.length_map]] at hrk
    have hsubs : (sumsI s.w J).Sublist (sumsI s.w s.I) := hsub.map _
    have hni : sumS t s.w ∉ sumsI s.w J := fun q => by
      have h1 := at_neg.1 h0
      have h2 : inL (s.I.map fun x => sumS x.t s.w) (sumS t s.w) = true := (inL_iff _ _).2 (hsubs.subset q)
      rw [h2] at h1; cases h1
    rw [hp, valid_iff]
    refine ⟨v1, v2, by show (insAt _ _ _).length ≤ _; rw [insAt_len hrk]; omega, v4, v5, v6, fun y hy => ?_, ?_, ?_⟩
    · have hy : y ∈ insAt J (rk (sumsI s.w J) (sumS t s.w)) ⟨t, now⟩ := hy
      unfold insAt at hy
      simp only [List.mem_append, List.mem_cons] at hy
      rcases hy with q | q | q
      · exact v7 y (hsub.subset (List.mem_of_mem_take q))
      · rw [q]; exact hok
      · exact v7 y (hsub.subset (List.mem_of_mem_drop q))
    · show (sumsI s.w (insAt _ _ _)).Pairwise _
      rw [sums_ins]
      exact pw_ins (v8.sublist hsubs) hni
    · show bytes (insAt _ _ _) ≤ _
      rw [bytes_ins]; exact hfit.1
theorem put_new {s : Store} {t : Str} {now : Int} (h : (putF s t now).2 = 0) : has (putF s t now).1 t := by
  obtain ⟨_, hs⟩ := put_shape h
  rcases hs with ⟨k, x, hx, e, hp⟩ | ⟨h0, J, hJ, hp⟩
  · rw [hp]
    exact ⟨⟨t, now⟩, List.mem_set (idx_lt hx) _, rfl⟩
  · rw [hp]
    exact ⟨⟨t, now⟩, by show _ ∈ insAt _ _ _; unfold insAt; simp, rfl⟩
theorem put_keep {s : Store} {t : Str} {now : Int} (h : (putF s t now).2 = 0) {u : Str} (hu : has s u) (hn : inL (needL s) (sumS u s.w) = true) : has (putF s t now).1 u := by
  obtain ⟨_, hs⟩ := put_shape h
  obtain ⟨y, hy, hyu⟩ := hu
  rcases hs with ⟨k, x, hx, e, hp⟩ | ⟨h0, J, hJ, hp⟩
  · rw [hp]
    by_cases q : y = x
    · exact ⟨⟨t, now⟩, List.mem_set (idx_lt hx) _, by show t = u; rw [← e, ← q, hyu]⟩
    · refine ⟨y, ?_, hyu⟩
      obtain ⟨i, hi⟩ := List.mem_iff_getElem?.1 hy
      have hik : k ≠ i := fun e2 => by subst e2; rw [hx] at hi; cases hi; exact q rfl
      exact List.mem_of_getElem? (i := i) (by show (s.I.set k _)[i]? = _; rw [List.getElem?_set, if_neg hik]; exact hi)
  · rw [hp]
    have := evF_keep hJ y hy (by rw [hyu]; exact hn)
    refine ⟨y, ?_, hyu⟩
    show y ∈ insAt _ _ _
    unfold insAt
    rw [← List.take_append_drop (rk (sumsI s.w J) (sumS t s.w)) J] at this
    rcases List.mem_append.1 this with q | q
    · exact List.mem_append.2 (.inl q)
    · exact List.mem_append.2 (.inr (List.mem_cons_of_mem _ q))
theorem foldS_in : ∀ (L A : List Str) (x : Str), x ∈ A ∨ x ∈ L → x ∈ L.foldl addS A
  | [], A, x, h => by
    rcases h with h | h
    · exact h
    · cases h
  | y :: r, A, x, h => by
    rw [List.foldl_cons]
    refine foldS_in r _ x ?_
    have hk : y ∈ addS A y ∧ ∀ z ∈ A, z ∈ addS A y := by
      unfold addS
      cases hc : hasS A y with
      | true =>
        unfold hasS at hc
        exact ⟨List.mem_of_getElem? (of_decide_eq_true hc), fun z hz => hz⟩
      | false =>
        refine ⟨by simp, fun z hz => ?_⟩
        rw [cond_false]
        rw [← List.take_append_drop (rk A y) A] at hz
        rcases List.mem_append.1 hz with q | q
        · exact List.mem_append.2 (.inl q)
        · exact List.mem_append.2 (.inr (List.mem_cons_of_mem _ q))
    rcases h with h | h
    · exact .inl (hk.2 x h)
    · rcases List.mem_cons.1 h with rfl | h
      · exact .inl hk.1
      · exact .inr h
theorem need_pin {s : Store} {p : Str} (h : p ∈ s.P) : inL (needL s) p = true :=
  (inL_iff _ _).2 (foldS_in _ _ _ (.inr (List.mem_flatMap.2 ⟨p, h, by unfold nmsF; simp⟩)))
theorem need_sum {s : Store} {p u : Str} (h : p ∈ s.P) (hu : u ∈ (listF s p).1.S) : inL (needL s) u = true :=
  (inL_iff _ _).2 (foldS_in _ _ _ (.inr (List.mem_flatMap.2 ⟨p, h, by unfold nmsF; simp [hu]⟩)))
theorem pin_valid {s : Store} {n : Str} (h : (pinS s n).2 = 0) : validSt (pinS s n).1 = true := by
  obtain ⟨hw, hr, hI, hP, hl, hv, hn⟩ := pin_wP h
  obtain ⟨v1, v2, v3, v4, v5, v6, v7, v8, v9⟩ := (valid_iff s).1 hv
  rw [valid_iff, hw, hr, hI]
  refine ⟨v1, v2, v3, hl, ?_, ?_, v7, v8, v9⟩
  · rw [hP]
    intro x hx
    unfold addS at hx
    cases hc : hasS s.P n with
    | true => rw [hc, cond_true] at hx; exact v5 x hx
    | false =>
      rw [hc, cond_false] at hx
      simp only [List.mem_append, List.mem_cons] at hx
      rcases hx with q | q | q
      · exact v5 x (List.mem_of_mem_take q)
      · rw [q]; exact hn
      · exact v5 x (List.mem_of_mem_drop q)
  · rw [hP]
    unfold addS
    cases hc : hasS s.P n with
    | true => rw [cond_true]; exact v6
    | false =>
      rw [cond_false]
      refine pw_ins v6 fun q => ?_
      have h1 := hasS_inL (validSt_asc hv).1 n
      rw [hc, (inL_iff _ _).2 q] at h1; cases h1
theorem pin_in {s : Store} {n : Str} (h : (pinS s n).2 = 0) : n ∈ (pinS s n).1.P ∧ ∀ x ∈ s.P, x ∈ (pinS s n).1.P := by
  obtain ⟨_, _, _, hP, _⟩ := pin_wP h
  rw [hP]
  have := foldS_in [n] s.P
  exact ⟨this n (.inr (by simp)), fun x hx => this x (.inl hx)⟩
end Go.Proofs.YtkkmgjhfjhcdmaaGreatDoor.Mx

/- Drawn stores: sorted items. -/
namespace Go.Proofs.YtkkmgjhfjhcdmaaGreatDoor.Mx
set_option linter.all false
open Go Go.RowKit Go.Proofs
set_option linter.unusedSimpArgs false
def srR (L : List Str) (r : Ans) : Prop := ∃ I : List Item, r = (.sl true 2 (I.map (itemC true)), []) ∧ I.length = L.length ∧ ∀ x ∈ I, x.t.size ≤ 10000
def E152 : Env := { T := T0, kp := look [(0, [0, 1]), (1, [0, 1]), (2, []), (3, [0, 1]), (4, [0]), (5, [0, 1]), (6, [0, 1, 5]), (7, [1, 5, 6]), (8, [1, 5, 6, 7]), (9, [1, 5, 6, 7]), (10, [1, 5, 6, 7]), (11, [1, 5, 6, 7]), (12, [1, 5, 6, 7]), (13, [1, 5, 6, 7]), (14, [7])], dp := look2 [(9, [[], [0], [0, 1], [0, 1, 2], [0, 1, 2, 3], [0, 1, 2, 3, 4], [0, 1, 2, 3, 4, 5], [0, 1, 2, 3, 4, 5, 6], [0, 1, 2, 3, 4, 5, 6, 7], [0, 1, 2, 3, 4, 5, 6, 7, 8], [0, 1, 2, 3, 4, 5, 6, 7, 8, 9], [0, 1, 2, 3, 4, 5, 6, 7, 8, 9, 10], [0, 1, 2, 3, 4, 5, 6, 7], [0, 1, 2, 3, 4, 5, 6, 7, 8, 9, 10, 11, 12], [0, 1, 2, 3, 4, 5, 6, 7], [0, 1, 2, 3, 4, 5, 6, 7, 14], [0, 1, 2, 3, 4, 5, 6, 7, 14, 15], [0, 1, 2, 3, 4, 5, 6, 7, 14, 15, 16], [0, 1, 2, 3, 4, 5, 6, 7], [0, 1, 2, 3, 4, 5, 6, 7, 8, 9, 10, 11, 12, 13, 14, 15, 16, 17, 18], [0, 1, 2, 3, 4, 5, 6, 7, 8, 9, 10, 11, 12, 13, 14, 15, 16, 17, 18, 19], [0, 1, 2, 3, 4, 5, 6, 7, 8, 9, 10, 11, 12, 13, 14, 15, 16, 17, 18, 19, 20], [0, 1, 2, 3, 4, 5, 6, 7, 8, 9, 10, 11, 12, 13, 14, 15, 16, 17, 18, 19, 20, 21]])] }
attribute [local push_cast] E152
set_option maxRecDepth 20000 in
set_option maxHeartbeats 4000000 in
theorem l4Sorted_step (L : List Str) (w : Int) (hL : L.length ≤ 2000) (hs : ∀ x ∈ L, x.size ≤ 10000)
    (IH : ∀ L' : List Str, L'.length < L.length → (∀ x ∈ L', x.size ≤ 10000) → ∃ r, srR L' r ∧ Does Tryz.prog 152 [.sl false 1 (L'.map strR), .sc (.int .i64 w)] r) :
    ∃ r, srR L r ∧ Does Tryz.prog 152 [.sl false 1 (L.map strR), .sc (.int .i64 w)] r := by
  refine does_ex (E := E152) (rs := [.tmp 4]) (lent := []) tOk rfl Tryz.func152 rfl (by decide) rfl rfl (Nat.le_of_ble_eq_true rfl) (Nat.le_of_ble_eq_true rfl) ?_
  by_cases h0 : L.length = 0
  · (simp -dsimp (disch := first | omega | (simp only [h0, LR] <;> omega) | fail) only [push_cast, h0, simprocAttr, -Nat.reduceSubDiff]) <;> (repeat (refine ex_draw (by kernel_rfl) ?_; simp -dsimp (disch := first | omega | (simp only [h0, LR] <;> omega) | fail) only [push_cast, h0, simprocAttr, -Nat.reduceSubDiff]))
    exact ⟨_, ⟨[], rfl, h0.symm, fun x hx => by cases hx⟩, rfl⟩
  by_cases h1 : L.length = 1
  · obtain ⟨x, hx⟩ := ex_get (show 0 < L.length by omega)
    (simp -dsimp (disch := first | omega | (simp only [h1, hx, LR] <;> omega) | fail) only [push_cast, h1, hx, simprocAttr, -Nat.reduceSubDiff]) <;> (repeat (refine ex_draw (by kernel_rfl) ?_; simp -dsimp (disch := first | omega | (simp only [h1, hx, LR] <;> omega) | fail) only [push_cast, h1, hx, simprocAttr, -Nat.reduceSubDiff]))
    exact ⟨_, ⟨[⟨x, 0⟩], rfl, h1.symm, fun y hy => by rw [List.mem_singleton.1 hy]; exact hs x (List.mem_of_getElem? hx)⟩, rfl⟩
  obtain ⟨k, hk⟩ : ∃ k, k = L.length / 2 := ⟨_, rfl⟩
  have d2 : (L.length : Int).tdiv 2 = (k : Int) := by rw [hk]; rfl
  have hne : (L.map strR).isEmpty = false := by cases L <;> simp at h0 ⊢
  have e1 : ((L.length : Int) - (k : Int)).toNat = L.length - k := by omega
  (simp -dsimp (disch := first | omega | (simp only [h0, h1, d2, hne, seg_tk, wr_id, LR] <;> omega) | fail) only [push_cast, h0, h1, d2, hne, seg_tk, wr_id, simprocAttr, -Nat.reduceSubDiff]) <;> (repeat (refine ex_draw (by kernel_rfl) ?_; simp -dsimp (disch := first | omega | (simp only [h0, h1, d2, hne, seg_tk, wr_id, LR] <;> omega) | fail) only [push_cast, h0, h1, d2, hne, seg_tk, wr_id, simprocAttr, -Nat.reduceSubDiff]))
  refine ex_some (IH (L.take k) (by rw [List.length_take]; omega) (fun x hx => hs x (List.mem_of_mem_take hx))) ?_
  rintro _ ⟨A, rfl, hA, hAs⟩
  (simp -dsimp (disch := first | omega | (simp only [h0, h1, d2, hne, seg_dr, e1, wr_id, LR] <;> omega) | fail) only [push_cast, h0, h1, d2, hne, seg_dr, e1, wr_id, simprocAttr, -Nat.reduceSubDiff]) <;> (repeat (refine ex_draw (by kernel_rfl) ?_; simp -dsimp (disch := first | omega | (simp only [h0, h1, d2, hne, seg_dr, e1, wr_id, LR] <;> omega) | fail) only [push_cast, h0, h1, d2, hne, seg_dr, e1, wr_id, simprocAttr, -Nat.reduceSubDiff]))
  refine ex_some (IH (L.drop k) (by rw [List.length_drop]; omega) (fun x hx => hs x (List.mem_of_mem_drop hx))) ?_
  rintro _ ⟨B, rfl, hB, hBs⟩
  rw [List.length_take] at hA
  rw [List.length_drop] at hB
  (simp -dsimp (disch := first | omega | (simp only [LR] <;> omega) | fail) only [push_cast, simprocAttr, -Nat.reduceSubDiff]) <;> (repeat (refine ex_draw (by kernel_rfl) ?_; simp -dsimp (disch := first | omega | (simp only [LR] <;> omega) | fail) only [push_cast, simprocAttr, -Nat.reduceSubDiff]))
  refine ex_loop (α := Nat × Nat × List Item) (fun q => q.1 ≤ A.length ∧ q.2.1 ≤ B.length ∧ q.2.2.length = q.1 + q.2.1 ∧ ∀ x ∈ q.2.2, x.t.size ≤ 10000)
    (fun q => ⟨[(1, .sc (.int .i64 w)), (5, .ow 1 q.1 (A.length - q.1)), (6, .ow 2 q.2.1 (B.length - q.2.1)), (7, .ow 3 0 q.2.2.length)], [(1, .ar 2 0 (A.map (itemC true))), (2, .ar 2 0 (B.map (itemC true))), (3, .ar 2 0 (q.2.2.map (itemC true)))], 4⟩)
    (fun q => (A.length - q.1) + (B.length - q.2.1)) (0, 0, []) ⟨Nat.zero_le _, Nat.zero_le _, rfl, fun x hx => by cases hx⟩ ?_ ?_
  · simp -dsimp (disch := first | omega | (simp only [Nat.sub_zero, LR] <;> omega) | fail) only [push_cast, Nat.sub_zero, simprocAttr, -Nat.reduceSubDiff]
  rintro ⟨i, j, O⟩ ⟨g1, g2, g3, g4⟩ ih
  replace g1 : i ≤ A.length := g1
  replace g2 : j ≤ B.length := g2
  replace g3 : O.length = i + j := g3
  replace g4 : ∀ x ∈ O, x.t.size ≤ 10000 := g4
  by_cases hi : i < A.length
  · obtain ⟨x, hx⟩ := ex_get hi
    have hxs := hAs x (List.mem_of_getElem? hx)
    have ha1 : ((A.length : Int) - (i : Int) - 1).toNat = A.length - (i + 1) := by omega
    have pa : 0 < A.length - i := by omega
    have np : (fun q : Nat × Nat × List Item => q.1 ≤ A.length ∧ q.2.1 ≤ B.length ∧ q.2.2.length = q.1 + q.2.1 ∧ ∀ x ∈ q.2.2, x.t.size ≤ 10000) (i + 1, j, O ++ [x]) := ⟨hi, g2, by show (O ++ [x]).length = i + 1 + j; rw [List.length_append, g3]; simp; omega, fun y hy => by
      rcases List.mem_append.1 hy with q | q
      · exact g4 y q
      · rw [List.mem_singleton.1 q]; exact hxs⟩
    by_cases hj : j < B.length
    · obtain ⟨y, hy⟩ := ex_get hj
      have hys := hBs y (List.mem_of_getElem? hy)
      have hb1 : ((B.length : Int) - (j : Int) - 1).toNat = B.length - (j + 1) := by omega
      have pb : 0 < B.length - j := by omega
      have nq : (fun q : Nat × Nat × List Item => q.1 ≤ A.length ∧ q.2.1 ≤ B.length ∧ q.2.2.length = q.1 + q.2.1 ∧ ∀ x ∈ q.2.2, x.t.size ≤ 10000) (i, j + 1, O ++ [y]) := ⟨g1, hj, by show (O ++ [y]).length = i + (j + 1); rw [List.length_append, g3]; simp; omega, fun z hz => by
        rcases List.mem_append.1 hz with q | q
        · exact g4 z q
        · rw [List.mem_singleton.1 q]; exact hys⟩
      (simp -dsimp (disch := first | omega | (simp only [hx, hy, Nat.add_zero, LR] <;> omega) | fail) only [push_cast, hx, hy, Nat.add_zero, simprocAttr, -Nat.reduceSubDiff]) <;> (repeat (refine ex_draw (by kernel_rfl) ?_; simp -dsimp (disch := first | omega | (simp only [hx, hy, Nat.add_zero, LR] <;> omega) | fail) only [push_cast, hx, hy, Nat.add_zero, simprocAttr, -Nat.reduceSubDiff]))
      refine ex_call (specSum x.t w (by omega)) ?_
      (simp -dsimp (disch := first | omega | (simp only [hx, hy, Nat.add_zero, LR] <;> omega) | fail) only [push_cast, hx, hy, Nat.add_zero, simprocAttr, -Nat.reduceSubDiff]) <;> (repeat (refine ex_draw (by kernel_rfl) ?_; simp -dsimp (disch := first | omega | (simp only [hx, hy, Nat.add_zero, LR] <;> omega) | fail) only [push_cast, hx, hy, Nat.add_zero, simprocAttr, -Nat.reduceSubDiff]))
      refine ex_call (specSum y.t w (by omega)) ?_
      cases e : lts (sumS x.t w) (sumS y.t w) with
      | true =>
        (simp -dsimp (disch := first | omega | (simp only [hx, hy, e, Nat.add_zero, ha1, LR] <;> omega) | fail) only [push_cast, hx, hy, e, Nat.add_zero, ha1, simprocAttr, -Nat.reduceSubDiff]) <;> (repeat (refine ex_draw (by kernel_rfl) ?_; simp -dsimp (disch := first | omega | (simp only [hx, hy, e, Nat.add_zero, ha1, LR] <;> omega) | fail) only [push_cast, hx, hy, e, Nat.add_zero, ha1, simprocAttr, -Nat.reduceSubDiff]))
        refine ih (i + 1, j, O ++ [x]) _ (by show (A.length - (i + 1)) + (B.length - j) < (A.length - i) + (B.length - j); omega) np ?_
        simp -dsimp (disch := first | omega | (simp only [wr_id, ha1, hb1, List.map_append, List.length_append, List.length_cons, List.length_nil, List.map_cons, List.map_nil, LR] <;> omega) | fail) only [push_cast, wr_id, ha1, hb1, List.map_append, List.length_append, List.length_cons, List.length_nil, List.map_cons, List.map_nil, simprocAttr, -Nat.reduceSubDiff]
      | false =>
        (simp -dsimp (disch := first | omega | (simp only [hx, hy, e, Nat.add_zero, hb1, LR] <;> omega) | fail) only [push_cast, hx, hy, e, Nat.add_zero, hb1, simprocAttr, -Nat.reduceSubDiff]) <;> (repeat (refine ex_draw (by kernel_rfl) ?_; simp -dsimp (disch := first | omega | (simp only [hx, hy, e, Nat.add_zero, hb1, LR] <;> omega) | fail) only [push_cast, hx, hy, e, Nat.add_zero, hb1, simprocAttr, -Nat.reduceSubDiff]))
        refine ih (i, j + 1, O ++ [y]) _ (by show (A.length - i) + (B.length - (j + 1)) < (A.length - i) + (B.length - j); omega) nq ?_
        simp -dsimp (disch := first | omega | (simp only [wr_id, ha1, hb1, List.map_append, List.length_append, List.length_cons, List.length_nil, List.map_cons, List.map_nil, LR] <;> omega) | fail) only [push_cast, wr_id, ha1, hb1, List.map_append, List.length_append, List.length_cons, List.length_nil, List.map_cons, List.map_nil, simprocAttr, -Nat.reduceSubDiff]
    · have pb : B.length - j = 0 := by omega
      (simp -dsimp (disch := first | omega | (simp only [hx, pb, Nat.add_zero, ha1, LR] <;> omega) | fail) only [push_cast, hx, pb, Nat.add_zero, ha1, simprocAttr, -Nat.reduceSubDiff]) <;> (repeat (refine ex_draw (by kernel_rfl) ?_; simp -dsimp (disch := first | omega | (simp only [hx, pb, Nat.add_zero, ha1, LR] <;> omega) | fail) only [push_cast, hx, pb, Nat.add_zero, ha1, simprocAttr, -Nat.reduceSubDiff]))
      refine ih (i + 1, j, O ++ [x]) _ (by show (A.length - (i + 1)) + (B.length - j) < (A.length - i) + (B.length - j); omega) np ?_
      simp -dsimp (disch := first | omega | (simp only [wr_id, pb, ha1, List.map_append, List.length_append, List.length_cons, List.length_nil, List.map_cons, List.map_nil, LR] <;> omega) | fail) only [push_cast, wr_id, pb, ha1, List.map_append, List.length_append, List.length_cons, List.length_nil, List.map_cons, List.map_nil, simprocAttr, -Nat.reduceSubDiff]
  · have pa : A.length - i = 0 := by omega
    by_cases hj : j < B.length
    · obtain ⟨y, hy⟩ := ex_get hj
      have hys := hBs y (List.mem_of_getElem? hy)
      have hb1 : ((B.length : Int) - (j : Int) - 1).toNat = B.length - (j + 1) := by omega
      have pb : 0 < B.length - j := by omega
      have nq : (fun q : Nat × Nat × List Item => q.1 ≤ A.length ∧ q.2.1 ≤ B.length ∧ q.2.2.length = q.1 + q.2.1 ∧ ∀ x ∈ q.2.2, x.t.size ≤ 10000) (i, j + 1, O ++ [y]) := ⟨g1, hj, by show (O ++ [y]).length = i + (j + 1); rw [List.length_append, g3]; simp; omega, fun z hz => by
        rcases List.mem_append.1 hz with q | q
        · exact g4 z q
        · rw [List.mem_singleton.1 q]; exact hys⟩
      (simp -dsimp (disch := first | omega | (simp only [hy, pa, Nat.add_zero, hb1, LR] <;> omega) | fail) only [push_cast, hy, pa, Nat.add_zero, hb1, simprocAttr, -Nat.reduceSubDiff]) <;> (repeat (refine ex_draw (by kernel_rfl) ?_; simp -dsimp (disch := first | omega | (simp only [hy, pa, Nat.add_zero, hb1, LR] <;> omega) | fail) only [push_cast, hy, pa, Nat.add_zero, hb1, simprocAttr, -Nat.reduceSubDiff]))
      refine ih (i, j + 1, O ++ [y]) _ (by show (A.length - i) + (B.length - (j + 1)) < (A.length - i) + (B.length - j); omega) nq ?_
      simp -dsimp (disch := first | omega | (simp only [wr_id, pa, hb1, List.map_append, List.length_append, List.length_cons, List.length_nil, List.map_cons, List.map_nil, LR] <;> omega) | fail) only [push_cast, wr_id, pa, hb1, List.map_append, List.length_append, List.length_cons, List.length_nil, List.map_cons, List.map_nil, simprocAttr, -Nat.reduceSubDiff]
    · have pb : B.length - j = 0 := by omega
      (simp -dsimp (disch := first | omega | (simp only [pa, pb, LR] <;> omega) | fail) only [push_cast, pa, pb, simprocAttr, -Nat.reduceSubDiff]) <;> (repeat (refine ex_draw (by kernel_rfl) ?_; simp -dsimp (disch := first | omega | (simp only [pa, pb, LR] <;> omega) | fail) only [push_cast, pa, pb, simprocAttr, -Nat.reduceSubDiff]))
      exact ⟨_, ⟨O, rfl, by omega, g4⟩, rfl⟩
theorem l4Sorted (w : Int) : ∀ (n : Nat) (L : List Str), L.length = n → L.length ≤ 2000 → (∀ x ∈ L, x.size ≤ 10000) → ∃ r, srR L r ∧ Does Tryz.prog 152 [.sl false 1 (L.map strR), .sc (.int .i64 w)] r := by
  intro n
  induction n using Nat.strongRecOn with
  | _ n ih => exact fun L hn hL hs => l4Sorted_step L w hL hs fun L' hlt hs' => ih L'.length (by omega) L' rfl (by omega) hs'
end Go.Proofs.YtkkmgjhfjhcdmaaGreatDoor.Mx

/- Drawn stores: spoilt. -/
namespace Go.Proofs.YtkkmgjhfjhcdmaaGreatDoor.Mx
set_option linter.all false
open Go Go.RowKit Go.Proofs
set_option linter.unusedSimpArgs false
theorem addS_in (l : List Str) (s : Str) : s ∈ addS l s ∧ ∀ x ∈ l, x ∈ addS l s := by
  unfold addS
  cases h : hasS l s with
  | true =>
    unfold hasS at h
    exact ⟨List.mem_of_getElem? (of_decide_eq_true h), fun x hx => hx⟩
  | false =>
    refine ⟨by simp, fun x hx => ?_⟩
    rw [cond_false]
    rw [← List.take_append_drop (rk l s) l] at hx
    rcases List.mem_append.1 hx with q | q
    · exact List.mem_append.2 (.inl q)
    · exact List.mem_append.2 (.inr (List.mem_cons_of_mem _ q))
theorem addS_of {l : List Str} {s x : Str} (h : x ∈ addS l s) : x ∈ l ∨ x = s := by
  unfold addS at h
  cases hc : hasS l s with
  | true => rw [hc, cond_true] at h; exact .inl h
  | false =>
    rw [hc, cond_false] at h
    simp only [List.mem_append, List.mem_cons] at h
    rcases h with q | q | q
    · exact .inl (List.mem_of_mem_take q)
    · exact .inr q
    · exact .inl (List.mem_of_mem_drop q)
def byS (w i : Nat) : Str := manyS ⟨#[UInt8.ofNat i]⟩ w
theorem byS_ne {w i j : Nat} (hw : 1 ≤ w) (hi : i < 256) (hj : j < 256) (h : byS w i = byS w j) : i = j := by
  unfold byS manyS at h
  have h2 := congrArg bt h
  rw [bt_stB, bt_stB] at h2
  obtain ⟨k, rfl⟩ : ∃ k, w = k + 1 := ⟨w - 1, by omega⟩
  rw [repB, repB] at h2
  have e : ∀ n : Nat, bt (⟨#[UInt8.ofNat n]⟩ : ByteArray) = [UInt8.ofNat n] := fun n => rfl
  rw [e, e, List.singleton_append, List.singleton_append] at h2
  have h3 := (List.cons.inj h2).1
  have h4 := congrArg UInt8.toNat h3
  rw [UInt8.toNat_ofNat', UInt8.toNat_ofNat'] at h4
  omega
theorem byS_len {w : Nat} (hw : 1 ≤ w) {L : List Str} {n : Nat} (hn : n ≤ 256) (h : ∀ j, j < n → byS w j ∈ L) : n ≤ L.length := by
  have nd : ((List.range n).map (byS w)).Nodup := by
    refine List.pairwise_map.2 (List.Pairwise.imp_of_mem (R := (· ≠ ·)) (fun {a b} ha hb hne e => hne (byS_ne hw (by have := List.mem_range.1 ha; omega) (by have := List.mem_range.1 hb; omega) e)) List.nodup_range)
  have := nodup_len nd (m := L) fun x hx => by
    obtain ⟨j, hj, rfl⟩ := List.mem_map.1 hx
    exact h j (List.mem_range.1 hj)
  simpa using this
def spR (c : List Int) (p K : Int) (r : Ans) : Prop := ∃ (s : Store) (p' : Int), r = (.ag (storeC true s), [some (.pb true (rdC1 c p'))]) ∧ okStore s ∧ p ≤ p' ∧ p' ≤ p + K
theorem sz1b (a : UInt8) : (⟨#[a]⟩ : ByteArray).size = 1 := rfl
theorem okL_snoc {α : Type} {ok : α → Prop} {l : List α} {x : α} (h : okL ok l) (hl : l.length ≤ 2097151) (hx : ok x) : okL ok (l ++ [x]) :=
  ⟨by rw [List.length_append]; simp; omega, fun a ha => by
    rcases List.mem_append.1 ha with q | q
    · exact h.2 a q
    · rw [List.mem_singleton.1 q]; exact hx⟩
theorem okL_set {α : Type} {ok : α → Prop} {l : List α} {x : α} {i : Nat} (h : okL ok l) (hx : ok x) : okL ok (l.set i x) :=
  ⟨by rw [List.length_set]; exact h.1, fun a ha => by
    rcases List.mem_or_eq_of_mem_set ha with q | q
    · exact h.2 a q
    · rw [q]; exact hx⟩
def E110 : Env := { T := T0, kp := look [(0, [0, 1]), (1, [0, 3, 4]), (2, [0, 3, 4, 5]), (3, [0, 4, 5]), (4, [0, 4, 5]), (5, [0, 4, 5, 8]), (6, [0, 4, 5, 8]), (7, [0, 4, 5, 8]), (8, [0, 4, 5, 8, 9]), (9, [0, 4, 5, 8, 9, 10]), (10, [0, 4, 5, 8, 9, 10]), (11, [0, 4, 5, 8, 9, 10]), (12, [0, 4, 5, 9]), (13, [0, 3, 4, 5, 14]), (14, [0, 4, 5]), (15, [0, 3, 4, 5, 14]), (16, [0, 3, 4, 5]), (17, [0, 3, 4, 5, 14]), (18, [0, 4, 5]), (19, [0, 3, 4, 5, 14]), (20, [0, 4, 5]), (21, [0, 4, 5]), (22, [0, 3, 4, 5, 14]), (23, [0, 4, 5]), (24, [0, 4, 5]), (25, [0, 3, 4, 5, 14]), (26, [0, 3, 4, 5]), (27, [0, 3, 4, 5, 14]), (28, [0, 3, 4, 5]), (29, [0, 3, 4, 5, 6]), (30, [0, 3, 4, 5, 6, 7]), (31, [0, 3, 4, 5, 6, 7]), (32, [0, 3, 4, 5, 6, 7]), (33, [0, 4, 5])], dp := look2 [(18, [[], [0], [], [2], [2, 3], [2, 3, 4], [2, 3, 4, 5], [], [2, 3, 4, 5, 7], [2, 3, 4, 5, 6, 7, 8], [2, 3, 4, 5, 6, 7, 8, 9], [2, 3, 4, 5, 6, 7, 8, 9, 10], [2, 3, 4, 5, 6, 7, 8, 9, 10, 11], [0, 1, 2, 3, 4, 5, 6, 7, 8, 9, 10, 11, 12], [0, 1, 2, 3, 4, 5, 6, 7, 8, 9, 10, 11, 12, 13], [0, 1, 2, 3, 4, 5, 6, 7, 8, 9, 10, 11, 12, 13, 14]]), (21, [[], [0], [], [], [3], [2, 3, 4], [2, 3, 4, 5], [0, 1, 2, 3, 4, 5, 6], [0, 1, 2, 3, 4, 5, 6, 7], [0, 1, 2, 3, 4, 5, 6, 7, 8]]), (24, [[], [0], [], [2], [2, 3], [2, 3, 4], [0, 1, 2, 3, 4, 5], [0, 1, 2, 3, 4, 5, 6]]), (26, [[], [0], [], [2], [2, 3], [2, 3, 4], [], [2, 3, 4, 6], [2, 3, 4, 5, 6, 7], [2, 3, 4, 5, 6, 7, 8], [2, 3, 4, 5, 6, 7, 8, 9], [0, 1, 2, 3, 4, 5, 6, 7, 8, 9, 10], [0, 1, 2, 3, 4, 5, 6, 7, 8, 9, 10, 11], [0, 1, 2, 3, 4, 5, 6, 7, 8, 9, 10, 11, 12]]), (32, [[], [0], [], [2], [2, 3], [2, 3, 4], [], [6], [2, 3, 4, 5, 6, 7], [0, 1, 2, 3, 4, 5, 6, 7, 8], [0, 1, 2, 3, 4, 5, 6, 7, 8, 9], [0, 1, 2, 3, 4, 5, 6, 7, 8, 9, 10]])], md := look3 [(2, 1, [1, 0]), (4, 1, [1, 0]), (14, 2, [1, 0]), (16, 5, [1, 0]), (18, 3, [1, 0]), (18, 8, [1, 0]), (21, 4, [1, 0]), (26, 7, [1, 0]), (28, 1, [1, 0]), (32, 9, [2])] }
attribute [local push_cast] E110
set_option maxRecDepth 20000 in
set_option maxHeartbeats 4000000 in
theorem l4Spoil (c : List Int) (p : Int) (s : Store) (hc : okCode c) (hp : 0 ≤ p) (hp2 : p ≤ 9000) (hs : gS s) : ∃ r, spR c p 10 r ∧ Does Tryz.prog 110 [.pb true (rdC1 c p), .ag (storeC true s)] r := by
  refine does_ex (E := E110) (rs := [.cell 4 26]) (lent := [true]) tOk rfl Tryz.func110 rfl (by decide) rfl rfl (Nat.le_of_ble_eq_true rfl) (Nat.le_of_ble_eq_true rfl) ?_
  obtain ⟨hok, hP, hw1, hw8, hI⟩ := hs
  have hl := hok.1.1
  (simp -dsimp (disch := first | omega | (simp only [LR] <;> omega) | fail) only [push_cast, simprocAttr, -Nat.reduceSubDiff]) <;> (repeat (refine ex_draw (by kernel_rfl) ?_; simp -dsimp (disch := first | omega | (simp only [LR] <;> omega) | fail) only [push_cast, simprocAttr, -Nat.reduceSubDiff]))
  refine ex_call (l4Copy s hok) ?_
  obtain ⟨k, hk, hd⟩ := pick_nat c p 8 hc hp (by omega) (by omega) (by omega)
  (simp -dsimp (disch := first | omega | (simp only [LR] <;> omega) | fail) only [push_cast, simprocAttr, -Nat.reduceSubDiff]) <;> (repeat (refine ex_draw (by kernel_rfl) ?_; simp -dsimp (disch := first | omega | (simp only [LR] <;> omega) | fail) only [push_cast, simprocAttr, -Nat.reduceSubDiff]))
  refine ex_call hd ?_
  clear hd
  obtain ⟨wn, hwn⟩ := nat_of' (show 0 ≤ s.w by omega)
  by_cases k0 : k = 0
  · subst k0
    obtain ⟨d, hd0, hd⟩ := pick_nat c (p + 1) 3 hc (by omega) (by omega) (by omega) (by omega)
    (simp -dsimp (disch := first | omega | (simp only [lrep3, LR] <;> omega) | fail) only [push_cast, lrep3, simprocAttr, -Nat.reduceSubDiff]) <;> (repeat (refine ex_draw (by kernel_rfl) ?_; simp -dsimp (disch := first | omega | (simp only [lrep3, LR] <;> omega) | fail) only [push_cast, lrep3, simprocAttr, -Nat.reduceSubDiff]))
    refine ex_call hd ?_
    have fin : ∀ z : Int, spR c p 10 (.ag [.sc (.int .i64 z), .sc (.int .i64 s.r), .sl true 2 (s.I.map (itemC true)), .sl true 1 (s.P.map strR)], [some (.pb true (rdC1 c (p + 1 + 1)))]) := fun z =>
      ⟨{ s with w := z }, p + 1 + 1, rfl, hok, by omega, by omega⟩
    rcases (show d = 0 ∨ d = 1 ∨ d = 2 by omega) with rfl | rfl | rfl
    all_goals
      (simp -dsimp (disch := first | omega | (simp only [lrep3, LR] <;> omega) | fail) only [push_cast, lrep3, simprocAttr, -Nat.reduceSubDiff]) <;> (repeat (refine ex_draw (by kernel_rfl) ?_; simp -dsimp (disch := first | omega | (simp only [lrep3, LR] <;> omega) | fail) only [push_cast, lrep3, simprocAttr, -Nat.reduceSubDiff]))
      exact ⟨_, fin _, rfl⟩
  by_cases k1 : k = 1
  · subst k1
    (simp -dsimp (disch := first | omega | (simp only [LR] <;> omega) | fail) only [push_cast, simprocAttr, -Nat.reduceSubDiff]) <;> (repeat (refine ex_draw (by kernel_rfl) ?_; simp -dsimp (disch := first | omega | (simp only [LR] <;> omega) | fail) only [push_cast, simprocAttr, -Nat.reduceSubDiff]))
    refine ex_call (l4Bytes s hok) ?_
    obtain ⟨d, hd0, hd⟩ := pick_nat c (p + 1) 3 hc (by omega) (by omega) (by omega) (by omega)
    (simp -dsimp (disch := first | omega | (simp only [lrep3, LR] <;> omega) | fail) only [push_cast, lrep3, simprocAttr, -Nat.reduceSubDiff]) <;> (repeat (refine ex_draw (by kernel_rfl) ?_; simp -dsimp (disch := first | omega | (simp only [lrep3, LR] <;> omega) | fail) only [push_cast, lrep3, simprocAttr, -Nat.reduceSubDiff]))
    refine ex_call hd ?_
    have fin : ∀ z : Int, spR c p 10 (.ag [.sc (.int .i64 s.w), .sc (.int .i64 z), .sl true 2 (s.I.map (itemC true)), .sl true 1 (s.P.map strR)], [some (.pb true (rdC1 c (p + 1 + 1)))]) := fun z =>
      ⟨{ s with r := z }, p + 1 + 1, rfl, hok, by omega, by omega⟩
    rcases (show d = 0 ∨ d = 1 ∨ d = 2 by omega) with rfl | rfl | rfl
    all_goals
      (simp -dsimp (disch := first | omega | (simp only [lrep3, LR] <;> omega) | fail) only [push_cast, lrep3, simprocAttr, -Nat.reduceSubDiff]) <;> (repeat (refine ex_draw (by kernel_rfl) ?_; simp -dsimp (disch := first | omega | (simp only [lrep3, LR] <;> omega) | fail) only [push_cast, lrep3, simprocAttr, -Nat.reduceSubDiff]))
      exact ⟨_, fin _, rfl⟩
  by_cases k2 : k = 2
  · subst k2
    obtain ⟨e, he0, hd⟩ := pick_nat c (p + 1) 2 hc (by omega) (by omega) (by omega) (by omega)
    (simp -dsimp (disch := first | omega | (simp only [lrep3, LR] <;> omega) | fail) only [push_cast, lrep3, simprocAttr, -Nat.reduceSubDiff]) <;> (repeat (refine ex_draw (by kernel_rfl) ?_; simp -dsimp (disch := first | omega | (simp only [lrep3, LR] <;> omega) | fail) only [push_cast, lrep3, simprocAttr, -Nat.reduceSubDiff]))
    refine ex_call hd ?_
    obtain ⟨m, hm⟩ := nat_of' (show 0 ≤ (7000 : Int) + e by omega)
    (simp -dsimp (disch := first | omega | (simp only [lrep3, wr_id, hm, LR] <;> omega) | fail) only [push_cast, lrep3, wr_id, hm, simprocAttr, -Nat.reduceSubDiff]) <;> (repeat (refine ex_draw (by kernel_rfl) ?_; simp -dsimp (disch := first | omega | (simp only [lrep3, wr_id, hm, LR] <;> omega) | fail) only [push_cast, lrep3, wr_id, hm, simprocAttr, -Nat.reduceSubDiff]))
    refine ex_some (l1Many ⟨#[98]⟩ m 7001 (by omega) (by rw [sz1b]; omega) (by omega) (by rw [sz1b]; omega)) ?_
    rintro _ ⟨t, rfl, ht⟩
    obtain ⟨d, hd0, hd⟩ := pick_nat c (p + 1 + 1) 3 hc (by omega) (by omega) (by omega) (by omega)
    (simp -dsimp (disch := first | omega | (simp only [lrep3, wr_id, hm, LR] <;> omega) | fail) only [push_cast, lrep3, wr_id, hm, simprocAttr, -Nat.reduceSubDiff]) <;> (repeat (refine ex_draw (by kernel_rfl) ?_; simp -dsimp (disch := first | omega | (simp only [lrep3, wr_id, hm, LR] <;> omega) | fail) only [push_cast, lrep3, wr_id, hm, simprocAttr, -Nat.reduceSubDiff]))
    refine ex_call hd ?_
    have fin : ∀ z : Str, z.size ≤ 7001 → spR c p 10 (.ag [.sc (.int .i64 s.w), .sc (.int .i64 s.r), .sl true 2 (s.I.map (itemC true) ++ [[.sc (.string z), .sc (.int .i64 0)]]), .sl true 1 (s.P.map strR)], [some (.pb true (rdC1 c (p + 1 + 1 + 1)))]) := fun z hz =>
      ⟨{ s with I := s.I ++ [⟨z, 0⟩] }, p + 1 + 1 + 1, by simp [storeC, itemC], ⟨okL_snoc hok.1 (by omega) (by show z.size ≤ 2097152; omega), hok.2⟩, by omega, by omega⟩
    rcases (show d = 0 ∨ d = 1 ∨ d = 2 by omega) with rfl | rfl | rfl
    · (simp -dsimp (disch := first | omega | (simp only [lrep3, wr_id, LR] <;> omega) | fail) only [push_cast, lrep3, wr_id, simprocAttr, -Nat.reduceSubDiff]) <;> (repeat (refine ex_draw (by kernel_rfl) ?_; simp -dsimp (disch := first | omega | (simp only [lrep3, wr_id, LR] <;> omega) | fail) only [push_cast, lrep3, wr_id, simprocAttr, -Nat.reduceSubDiff]))
      exact ⟨_, fin _ (by decide), rfl⟩
    · (simp -dsimp (disch := first | omega | (simp only [lrep3, wr_id, LR] <;> omega) | fail) only [push_cast, lrep3, wr_id, simprocAttr, -Nat.reduceSubDiff]) <;> (repeat (refine ex_draw (by kernel_rfl) ?_; simp -dsimp (disch := first | omega | (simp only [lrep3, wr_id, LR] <;> omega) | fail) only [push_cast, lrep3, wr_id, simprocAttr, -Nat.reduceSubDiff]))
      exact ⟨_, fin _ (by decide), rfl⟩
    · (simp -dsimp (disch := first | omega | (simp only [lrep3, wr_id, LR] <;> omega) | fail) only [push_cast, lrep3, wr_id, simprocAttr, -Nat.reduceSubDiff]) <;> (repeat (refine ex_draw (by kernel_rfl) ?_; simp -dsimp (disch := first | omega | (simp only [lrep3, wr_id, LR] <;> omega) | fail) only [push_cast, lrep3, wr_id, simprocAttr, -Nat.reduceSubDiff]))
      exact ⟨_, fin _ ht, rfl⟩
  by_cases k3 : k = 3
  · subst k3
    by_cases h0 : 0 < s.I.length
    · obtain ⟨x, hx⟩ := ex_get h0
      have hxo := hok.1.2 x (List.mem_of_getElem? hx)
      obtain ⟨d, hd0, hd⟩ := pick_nat c (p + 1) 3 hc (by omega) (by omega) (by omega) (by omega)
      (simp -dsimp (disch := first | omega | (simp only [lrep3, LR] <;> omega) | fail) only [push_cast, lrep3, simprocAttr, -Nat.reduceSubDiff]) <;> (repeat (refine ex_draw (by kernel_rfl) ?_; simp -dsimp (disch := first | omega | (simp only [lrep3, LR] <;> omega) | fail) only [push_cast, lrep3, simprocAttr, -Nat.reduceSubDiff]))
      refine ex_call hd ?_
      have fin : ∀ z : Int, spR c p 10 (.ag [.sc (.int .i64 s.w), .sc (.int .i64 s.r), .sl true 2 ((s.I.set 0 ⟨x.t, z⟩).map (itemC true)), .sl true 1 (s.P.map strR)], [some (.pb true (rdC1 c (p + 1 + 1)))]) := fun z =>
        ⟨{ s with I := s.I.set 0 ⟨x.t, z⟩ }, p + 1 + 1, rfl, ⟨okL_set hok.1 hxo, hok.2⟩, by omega, by omega⟩
      rcases (show d = 0 ∨ d = 1 ∨ d = 2 by omega) with rfl | rfl | rfl
      all_goals
        (simp -dsimp (disch := first | omega | (simp only [lrep3, hx, set_item, Nat.add_zero, LR] <;> omega) | fail) only [push_cast, lrep3, hx, set_item, Nat.add_zero, simprocAttr, -Nat.reduceSubDiff]) <;> (repeat (refine ex_draw (by kernel_rfl) ?_; simp -dsimp (disch := first | omega | (simp only [lrep3, hx, set_item, Nat.add_zero, LR] <;> omega) | fail) only [push_cast, lrep3, hx, set_item, Nat.add_zero, simprocAttr, -Nat.reduceSubDiff]))
        exact ⟨_, fin _, rfl⟩
    · (simp -dsimp (disch := first | omega | (simp only [LR] <;> omega) | fail) only [push_cast, simprocAttr, -Nat.reduceSubDiff]) <;> (repeat (refine ex_draw (by kernel_rfl) ?_; simp -dsimp (disch := first | omega | (simp only [LR] <;> omega) | fail) only [push_cast, simprocAttr, -Nat.reduceSubDiff]))
      exact ⟨_, ⟨s, p + 1, rfl, hok, by omega, by omega⟩, rfl⟩
  by_cases k4 : k = 4
  · subst k4
    by_cases h0 : 1 < s.I.length
    · obtain ⟨x, hx⟩ := ex_get (show 0 < s.I.length by omega)
      obtain ⟨y, hy⟩ := ex_get h0
      have hyo := hok.1.2 y (List.mem_of_getElem? hy)
      (simp -dsimp (disch := first | omega | (simp only [hx, hy, set_item, Nat.add_zero, LR] <;> omega) | fail) only [push_cast, hx, hy, set_item, Nat.add_zero, simprocAttr, -Nat.reduceSubDiff]) <;> (repeat (refine ex_draw (by kernel_rfl) ?_; simp -dsimp (disch := first | omega | (simp only [hx, hy, set_item, Nat.add_zero, LR] <;> omega) | fail) only [push_cast, hx, hy, set_item, Nat.add_zero, simprocAttr, -Nat.reduceSubDiff]))
      exact ⟨_, ⟨{ s with I := s.I.set 0 ⟨y.t, y.u⟩ }, p + 1, rfl, ⟨okL_set hok.1 hyo, hok.2⟩, by omega, by omega⟩, rfl⟩
    · (simp -dsimp (disch := first | omega | (simp only [LR] <;> omega) | fail) only [push_cast, simprocAttr, -Nat.reduceSubDiff]) <;> (repeat (refine ex_draw (by kernel_rfl) ?_; simp -dsimp (disch := first | omega | (simp only [LR] <;> omega) | fail) only [push_cast, simprocAttr, -Nat.reduceSubDiff]))
      exact ⟨_, ⟨s, p + 1, rfl, hok, by omega, by omega⟩, rfl⟩
  by_cases k5 : k = 5
  · subst k5
    (simp -dsimp (disch := first | omega | (simp only [lrep3, hwn, LR] <;> omega) | fail) only [push_cast, lrep3, hwn, simprocAttr, -Nat.reduceSubDiff]) <;> (repeat (refine ex_draw (by kernel_rfl) ?_; simp -dsimp (disch := first | omega | (simp only [lrep3, hwn, LR] <;> omega) | fail) only [push_cast, lrep3, hwn, simprocAttr, -Nat.reduceSubDiff]))
    refine ex_some (l1Many ⟨#[255]⟩ wn 8 (by omega) (by rw [sz1b]; omega) (by omega) (by rw [sz1b]; omega)) ?_
    rintro _ ⟨t, rfl, ht⟩
    obtain ⟨d, hd0, hd⟩ := pick_nat c (p + 1) 3 hc (by omega) (by omega) (by omega) (by omega)
    (simp -dsimp (disch := first | omega | (simp only [lrep3, hwn, LR] <;> omega) | fail) only [push_cast, lrep3, hwn, simprocAttr, -Nat.reduceSubDiff]) <;> (repeat (refine ex_draw (by kernel_rfl) ?_; simp -dsimp (disch := first | omega | (simp only [lrep3, hwn, LR] <;> omega) | fail) only [push_cast, lrep3, hwn, simprocAttr, -Nat.reduceSubDiff]))
    refine ex_call hd ?_
    have fin : ∀ z : Str, z.size ≤ 8 → spR c p 10 (.ag [.sc (.int .i64 wn), .sc (.int .i64 s.r), .sl true 2 (s.I.map (itemC true)), .sl true 1 (s.P.map strR ++ [[.sc (.string z)]])], [some (.pb true (rdC1 c (p + 1 + 1)))]) := fun z hz =>
      ⟨{ s with P := s.P ++ [z] }, p + 1 + 1, by simp [storeC, strR, hwn], ⟨hok.1, okL_snoc hok.2 (by omega) (by show z.size ≤ 2097152; omega)⟩, by omega, by omega⟩
    rcases (show d = 0 ∨ d = 1 ∨ d = 2 by omega) with rfl | rfl | rfl
    · (simp -dsimp (disch := first | omega | (simp only [lrep3, hwn, LR] <;> omega) | fail) only [push_cast, lrep3, hwn, simprocAttr, -Nat.reduceSubDiff]) <;> (repeat (refine ex_draw (by kernel_rfl) ?_; simp -dsimp (disch := first | omega | (simp only [lrep3, hwn, LR] <;> omega) | fail) only [push_cast, lrep3, hwn, simprocAttr, -Nat.reduceSubDiff]))
      exact ⟨_, fin _ (by decide), rfl⟩
    · (simp -dsimp (disch := first | omega | (simp only [lrep3, hwn, LR] <;> omega) | fail) only [push_cast, lrep3, hwn, simprocAttr, -Nat.reduceSubDiff]) <;> (repeat (refine ex_draw (by kernel_rfl) ?_; simp -dsimp (disch := first | omega | (simp only [lrep3, hwn, LR] <;> omega) | fail) only [push_cast, lrep3, hwn, simprocAttr, -Nat.reduceSubDiff]))
      exact ⟨_, fin _ (by decide), rfl⟩
    · (simp -dsimp (disch := first | omega | (simp only [lrep3, hwn, LR] <;> omega) | fail) only [push_cast, lrep3, hwn, simprocAttr, -Nat.reduceSubDiff]) <;> (repeat (refine ex_draw (by kernel_rfl) ?_; simp -dsimp (disch := first | omega | (simp only [lrep3, hwn, LR] <;> omega) | fail) only [push_cast, lrep3, hwn, simprocAttr, -Nat.reduceSubDiff]))
      exact ⟨_, fin _ ht, rfl⟩
  by_cases k6 : k = 6
  · subst k6
    obtain ⟨d, hd0, hd⟩ := pick_nat c (p + 1) 2 hc (by omega) (by omega) (by omega) (by omega)
    (simp -dsimp (disch := first | omega | (simp only [wr_id, LR] <;> omega) | fail) only [push_cast, wr_id, simprocAttr, -Nat.reduceSubDiff]) <;> (repeat (refine ex_draw (by kernel_rfl) ?_; simp -dsimp (disch := first | omega | (simp only [wr_id, LR] <;> omega) | fail) only [push_cast, wr_id, simprocAttr, -Nat.reduceSubDiff]))
    refine ex_call hd ?_
    clear hd
    (simp -dsimp (disch := first | omega | (simp only [wr_id, LR] <;> omega) | fail) only [push_cast, wr_id, simprocAttr, -Nat.reduceSubDiff]) <;> (repeat (refine ex_draw (by kernel_rfl) ?_; simp -dsimp (disch := first | omega | (simp only [wr_id, LR] <;> omega) | fail) only [push_cast, wr_id, simprocAttr, -Nat.reduceSubDiff]))
    refine ex_loop (α := Nat × List Str) (fun q => q.1 ≤ 12 ∧ q.2.length ≤ 11 ∧ okL okStr q.2 ∧ ∀ j, j < q.1 → byS wn j ∈ q.2)
      (fun q => ⟨[(0, .pt 1 0 0), (3, .pt 2 0 0), (4, .pt 5 0 0), (5, .pt 8 0 0), (6, .sc (.int .i64 (10 + (d : Int)))), (7, .sc (.int .i64 q.1))],
        [(1, .bx (rdC1 c (p + 1 + 1))), (2, .bx [.sc (.int .i64 s.w), .sc (.int .i64 s.r), .ow 3 0 s.I.length, .ow 4 0 s.P.length]), (3, .ar 2 0 (s.I.map (itemC true))), (4, .ar 1 0 (s.P.map strR)), (5, .bx [.sc (.int .i64 0), .sc (.int .i64 0), .ow 6 0 0, .ow 7 0 0]), (6, .ar 2 0 []), (7, .ar 1 0 []),
          (8, .bx [.sc (.int .i64 s.w), .sc (.int .i64 s.r), .ow 9 0 s.I.length, .ow 10 0 q.2.length]), (9, .ar 2 0 (s.I.map (itemC true))), (10, .ar 1 0 (q.2.map strR))], 11⟩) (fun q => 12 - q.1) (0, s.P) ⟨Nat.zero_le _, by show s.P.length ≤ 11; omega, hok.2, fun j hj => by omega⟩ ?_ ?_
    · simp -dsimp (disch := first | omega | (simp only [LR] <;> omega) | fail) only [push_cast, simprocAttr, -Nat.reduceSubDiff]
    rintro ⟨i, L⟩ ⟨g1, g2, g3, g4⟩ ih
    replace g1 : i ≤ 12 := g1
    replace g2 : L.length ≤ 11 := g2
    replace g3 : okL okStr L := g3
    replace g4 : ∀ j, j < i → byS wn j ∈ L := g4
    have hiL := byS_len (w := wn) (by omega) (by omega) g4
    by_cases h : (L.length : Int) < 10 + d
    · have e8 : wr .u8 (i : Int) = i := by rw [wr_u8]; omega
      have hsz : (⟨#[UInt8.ofNat i]⟩ : ByteArray).size = 1 := rfl
      (simp -dsimp (disch := first | omega | (simp only [wr_id, e8, bytesOf, byteOf, hwn, LR] <;> omega) | fail) only [push_cast, wr_id, e8, bytesOf, byteOf, hwn, simprocAttr, -Nat.reduceSubDiff]) <;> (repeat (refine ex_draw (by kernel_rfl) ?_; simp -dsimp (disch := first | omega | (simp only [wr_id, e8, bytesOf, byteOf, hwn, LR] <;> omega) | fail) only [push_cast, wr_id, e8, bytesOf, byteOf, hwn, simprocAttr, -Nat.reduceSubDiff]))
      refine ex_call (l1ManyX ⟨#[UInt8.ofNat i]⟩ wn (by omega) (by rw [hsz]; omega) (by rw [hsz]; omega)) ?_
      rw [show manyS ⟨#[UInt8.ofNat i]⟩ wn = byS wn i from rfl]
      (simp -dsimp (disch := first | omega | (simp only [wr_id, e8, bytesOf, byteOf, hwn, LR] <;> omega) | fail) only [push_cast, wr_id, e8, bytesOf, byteOf, hwn, simprocAttr, -Nat.reduceSubDiff]) <;> (repeat (refine ex_draw (by kernel_rfl) ?_; simp -dsimp (disch := first | omega | (simp only [wr_id, e8, bytesOf, byteOf, hwn, LR] <;> omega) | fail) only [push_cast, wr_id, e8, bytesOf, byteOf, hwn, simprocAttr, -Nat.reduceSubDiff]))
      refine ex_call (l4Add L (byS wn i) (by omega)) ?_
      have ha := addS_len1 L (byS wn i)
      have hi := addS_in L (byS wn i)
      have hbs : (byS wn i).size ≤ 8 := by unfold byS; rw [manyS_sz, hsz]; omega
      (simp -dsimp (disch := first | omega | (simp only [wr_id, e8, bytesOf, byteOf, hwn, LR] <;> omega) | fail) only [push_cast, wr_id, e8, bytesOf, byteOf, hwn, simprocAttr, -Nat.reduceSubDiff]) <;> (repeat (refine ex_draw (by kernel_rfl) ?_; simp -dsimp (disch := first | omega | (simp only [wr_id, e8, bytesOf, byteOf, hwn, LR] <;> omega) | fail) only [push_cast, wr_id, e8, bytesOf, byteOf, hwn, simprocAttr, -Nat.reduceSubDiff]))
      refine ih (i + 1, addS L (byS wn i)) _ (by show 12 - (i + 1) < 12 - i; omega) ⟨by show i + 1 ≤ 12; omega, by show (addS L (byS wn i)).length ≤ 11; omega, ⟨by show (addS L (byS wn i)).length ≤ _; omega, fun a ha => by
        rcases addS_of ha with q | q
        · exact g3.2 a q
        · rw [q]; show (byS wn i).size ≤ 2097152; omega⟩, fun j hj => by
        by_cases q : j = i
        · rw [q]; exact hi.1
        · exact hi.2 _ (g4 j (by omega))⟩ ?_
      simp -dsimp (disch := first | omega | (simp only [wr_id, hwn, LR] <;> omega) | fail) only [push_cast, wr_id, hwn, simprocAttr, -Nat.reduceSubDiff]
    · (simp -dsimp (disch := first | omega | (simp only [wr_id, LR] <;> omega) | fail) only [push_cast, wr_id, simprocAttr, -Nat.reduceSubDiff]) <;> (repeat (refine ex_draw (by kernel_rfl) ?_; simp -dsimp (disch := first | omega | (simp only [wr_id, LR] <;> omega) | fail) only [push_cast, wr_id, simprocAttr, -Nat.reduceSubDiff]))
      exact ⟨_, ⟨{ s with P := L }, p + 1 + 1, rfl, ⟨hok.1, g3⟩, by omega, by omega⟩, rfl⟩
  obtain ⟨d, hd0, hd⟩ := pick_nat c (p + 1) 2 hc (by omega) (by omega) (by omega) (by omega)
  (simp -dsimp (disch := first | omega | (simp only [k0, k1, k2, k3, k4, k5, k6, wr_id, LR] <;> omega) | fail) only [push_cast, k0, k1, k2, k3, k4, k5, k6, wr_id, simprocAttr, -Nat.reduceSubDiff]) <;> (repeat (refine ex_draw (by kernel_rfl) ?_; simp -dsimp (disch := first | omega | (simp only [k0, k1, k2, k3, k4, k5, k6, wr_id, LR] <;> omega) | fail) only [push_cast, k0, k1, k2, k3, k4, k5, k6, wr_id, simprocAttr, -Nat.reduceSubDiff]))
  refine ex_call hd ?_
  clear hd
  by_cases hw2 : 2 < s.w
  rotate_left
  · (simp -dsimp (disch := first | omega | (simp only [wr_id, LR] <;> omega) | fail) only [push_cast, wr_id, simprocAttr, -Nat.reduceSubDiff]) <;> (repeat (refine ex_draw (by kernel_rfl) ?_; simp -dsimp (disch := first | omega | (simp only [wr_id, LR] <;> omega) | fail) only [push_cast, wr_id, simprocAttr, -Nat.reduceSubDiff]))
    exact ⟨_, ⟨{ s with r := 60000 }, p + 1 + 1, rfl, hok, by omega, by omega⟩, rfl⟩
  (simp -dsimp (disch := first | omega | (simp only [wr_id, LR] <;> omega) | fail) only [push_cast, wr_id, simprocAttr, -Nat.reduceSubDiff]) <;> (repeat (refine ex_draw (by kernel_rfl) ?_; simp -dsimp (disch := first | omega | (simp only [wr_id, LR] <;> omega) | fail) only [push_cast, wr_id, simprocAttr, -Nat.reduceSubDiff]))
  refine ex_loop (α := Nat × List Str) (fun q => q.2.length = q.1 ∧ q.1 ≤ 1001 ∧ ∀ x ∈ q.2, x.size ≤ 10000)
    (fun q => ⟨[(0, .pt 1 0 0), (4, .pt 2 0 0), (5, .pt 5 0 0), (8, .sc (.int .i64 (1000 + (d : Int)))), (9, .ow 8 0 q.2.length), (10, .sc (.int .i64 q.1))],
      [(1, .bx (rdC1 c (p + 1 + 1))), (2, .bx [.sc (.int .i64 0), .sc (.int .i64 0), .ow 3 0 0, .ow 4 0 0]), (3, .ar 2 0 []), (4, .ar 1 0 []),
        (5, .bx [.sc (.int .i64 s.w), .sc (.int .i64 60000), .ow 6 0 0, .ow 7 0 s.P.length]), (6, .ar 2 0 []), (7, .ar 1 0 (s.P.map strR)), (8, .ar 1 0 (q.2.map strR))], 9⟩) (fun q => 1002 - q.1) (0, []) ⟨rfl, by show 0 ≤ 1001; omega, fun x hx => by cases hx⟩ ?_ ?_
  · simp -dsimp (disch := first | omega | (simp only [LR] <;> omega) | fail) only [push_cast, simprocAttr, -Nat.reduceSubDiff]
  rintro ⟨i, L⟩ ⟨g1, g2, g3⟩ ih
  replace g1 : L.length = i := g1
  replace g2 : i ≤ 1001 := g2
  replace g3 : ∀ x ∈ L, x.size ≤ 10000 := g3
  by_cases h : (L.length : Int) < 1000 + d
  · (simp -dsimp (disch := first | omega | (simp only [wr_id, LR] <;> omega) | fail) only [push_cast, wr_id, simprocAttr, -Nat.reduceSubDiff]) <;> (repeat (refine ex_draw (by kernel_rfl) ?_; simp -dsimp (disch := first | omega | (simp only [wr_id, LR] <;> omega) | fail) only [push_cast, wr_id, simprocAttr, -Nat.reduceSubDiff]))
    refine ex_call (l3Dec i (by omega)) ?_
    have hdl : (stB (Lib.decDigits i)).size ≤ 1002 := by have := decD_len i; rw [stB_size]; omega
    generalize stB (Lib.decDigits i) = D at *
    (simp -dsimp (disch := first | omega | (simp only [wr_id, sz1b, LR] <;> omega) | fail) only [push_cast, wr_id, sz1b, simprocAttr, -Nat.reduceSubDiff]) <;> (repeat (refine ex_draw (by kernel_rfl) ?_; simp -dsimp (disch := first | omega | (simp only [wr_id, sz1b, LR] <;> omega) | fail) only [push_cast, wr_id, sz1b, simprocAttr, -Nat.reduceSubDiff]))
    refine ih (i + 1, L ++ [⟨#[116]⟩ ++ D]) _ (by show 1002 - (i + 1) < 1002 - i; omega) ⟨by show (L ++ [_]).length = i + 1; rw [List.length_append, g1]; rfl, by show i + 1 ≤ 1001; omega, fun x hx => by
      rcases List.mem_append.1 hx with q | q
      · exact g3 x q
      · rw [List.mem_singleton.1 q, ByteArray.size_append, sz1b]; omega⟩ ?_
    simp -dsimp (disch := first | omega | (simp only [wr_id, List.map_append, List.length_append, List.length_cons, List.length_nil, List.map_cons, List.map_nil, LR] <;> omega) | fail) only [push_cast, wr_id, List.map_append, List.length_append, List.length_cons, List.length_nil, List.map_cons, List.map_nil, simprocAttr, -Nat.reduceSubDiff]
  · (simp -dsimp (disch := first | omega | (simp only [wr_id, LR] <;> omega) | fail) only [push_cast, wr_id, simprocAttr, -Nat.reduceSubDiff]) <;> (repeat (refine ex_draw (by kernel_rfl) ?_; simp -dsimp (disch := first | omega | (simp only [wr_id, LR] <;> omega) | fail) only [push_cast, wr_id, simprocAttr, -Nat.reduceSubDiff]))
    refine ex_some (l4Sorted s.w L.length L rfl (by omega) g3) ?_
    rintro _ ⟨J, rfl, hJ, hJs⟩
    (simp -dsimp (disch := first | omega | (simp only [wr_id, LR] <;> omega) | fail) only [push_cast, wr_id, simprocAttr, -Nat.reduceSubDiff]) <;> (repeat (refine ex_draw (by kernel_rfl) ?_; simp -dsimp (disch := first | omega | (simp only [wr_id, LR] <;> omega) | fail) only [push_cast, wr_id, simprocAttr, -Nat.reduceSubDiff]))
    exact ⟨_, ⟨{ s with r := 60000, I := J }, p + 1 + 1, rfl, ⟨⟨by show J.length ≤ _; omega, fun a ha => by have := hJs a ha; show a.t.size ≤ 2097152; omega⟩, hok.2⟩, by omega, by omega⟩, rfl⟩
end Go.Proofs.YtkkmgjhfjhcdmaaGreatDoor.Mx

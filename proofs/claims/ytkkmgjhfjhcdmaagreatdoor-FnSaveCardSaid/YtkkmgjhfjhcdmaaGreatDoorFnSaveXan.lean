/- A machine over values for Go functions, proved sound, and functions run on it: texts F58, F54, F59, F22, F60, F48, F44, LFnSave. -/
import Derived.Test.YtkkmgjhfjhcdmaaGreatDoorFnSaveXah
import Derived.Test.YtkkmgjhfjhcdmaaGreatDoorFnSaveXai
import Derived.Test.YtkkmgjhfjhcdmaaGreatDoorFnSaveXaj
import Derived.Test.YtkkmgjhfjhcdmaaGreatDoorFnSaveXak
import Derived.Test.YtkkmgjhfjhcdmaaGreatDoorFnSaveXal
import Derived.Test.YtkkmgjhfjhcdmaaGreatDoorFnSaveXam
/- Drawn stores: spoilt. -/
namespace Go.Proofs.YtkkmgjhfjhcdmaaGreatDoor.Mx
set_option linter.all false
open Go Go.RowKit Go.Proofs
set_option linter.unusedSimpArgs false
theorem addS_in (l : List Str) (s : Str) : s ∈ addS l s ∧ ∀ x ∈ l, x ∈ addS l s := by
  unfold addS
  cases h : hasS l s with
  | true =>
    unfold hasS at h
    exact ⟨List.mem_of_getElem? (of_decide_eq_true h), fun x hx => hx⟩
  | false =>
    refine ⟨by simp, fun x hx => ?_⟩
    rw [cond_false]
    rw [← List.take_append_drop (rk l s) l] at hx
    rcases List.mem_append.1 hx with q | q
    · exact List.mem_append.2 (.inl q)
    · exact List.mem_append.2 (.inr (List.mem_cons_of_mem _ q))
theorem addS_of {l : List Str} {s x : Str} (h : x ∈ addS l s) : x ∈ l ∨ x = s := by
  unfold addS at h
  cases hc : hasS l s with
  | true => rw [hc, cond_true] at h; exact .inl h
  | false =>
    rw [hc, cond_false] at h
    simp only [List.mem_append, List.mem_cons] at h
    rcases h with q | q | q
    · exact .inl (List.mem_of_mem_take q)
    · exact .inr q
    · exact .inl (List.mem_of_mem_drop q)
def byS (w i : Nat) : Str := manyS ⟨#[UInt8.ofNat i]⟩ w
theorem byS_ne {w i j : Nat} (hw : 1 ≤ w) (hi : i < 256) (hj : j < 256) (h : byS w i = byS w j) : i = j := by
  unfold byS manyS at h
  have h2 := congrArg bt h
  rw [bt_stB, bt_stB] at h2
  obtain ⟨k, rfl⟩ : ∃ k, w = k + 1 := ⟨w - 1, by omega⟩
  rw [repB, repB] at h2
  have e : ∀ n : Nat, bt (⟨#[UInt8.ofNat n]⟩ : ByteArray) = [UInt8.ofNat n] := fun n => rfl
  rw [e, e, List.singleton_append, List.singleton_append] at h2
  have h3 := (List.cons.inj h2).1
  have h4 := congrArg UInt8.toNat h3
  rw [UInt8.toNat_ofNat', UInt8.toNat_ofNat'] at h4
  omega
theorem byS_len {w : Nat} (hw : 1 ≤ w) {L : List Str} {n : Nat} (hn : n ≤ 256) (h : ∀ j, j < n → byS w j ∈ L) : n ≤ L.length := by
  have nd : ((List.range n).map (byS w)).Nodup := by
    refine List.pairwise_map.2 (List.Pairwise.imp_of_mem (R := (· ≠ ·)) (fun {a b} ha hb hne e => hne (byS_ne hw (by have := List.mem_range.1 ha; omega) (by have := List.mem_range.1 hb; omega) e)) List.nodup_range)
  have := nodup_len nd (m := L) fun x hx => by
    obtain ⟨j, hj, rfl⟩ := List.mem_map.1 hx
    exact h j (List.mem_range.1 hj)
  simpa using this
def spR (c : List Int) (p K : Int) (r : Ans) : Prop := ∃ (s : Store) (p' : Int), r = (.ag (storeC true s), [some (.pb true (rdC1 c p'))]) ∧ okStore s ∧ p ≤ p' ∧ p' ≤ p + K
theorem sz1b (a : UInt8) : (⟨#[a]⟩ : ByteArray).size = 1 := rfl
theorem okL_snoc {α : Type} {ok : α → Prop} {l : List α} {x : α} (h : okL ok l) (hl : l.length ≤ 2097151) (hx : ok x) : okL ok (l ++ [x]) :=
  ⟨by rw [List.length_append]; simp; omega, fun a ha => by
    rcases List.mem_append.1 ha with q | q
    · exact h.2 a q
    · rw [List.mem_singleton.1 q]; exact hx⟩
theorem okL_set {α : Type} {ok : α → Prop} {l : List α} {x : α} {i : Nat} (h : okL ok l) (hx : ok x) : okL ok (l.set i x) :=
  ⟨by rw [List.length_set]; exact h.1, fun a ha => by
    rcases List.mem_or_eq_of_mem_set ha with q | q
    · exact h.2 a q
    · rw [q]; exact hx⟩
def E110 : Env := { T := T0, kp := look [(0, [0, 1]), (1, [0, 3, 4]), (2, [0, 3, 4, 5]), (3, [0, 4, 5]), (4, [0, 4, 5]), (5, [0, 4, 5, 8]), (6, [0, 4, 5, 8]), (7, [0, 4, 5, 8]), (8, [0, 4, 5, 8, 9]), (9, [0, 4, 5, 8, 9, 10]), (10, [0, 4, 5, 8, 9, 10]), (11, [0, 4, 5, 8, 9, 10]), (12, [0, 4, 5, 9]), (13, [0, 3, 4, 5, 14]), (14, [0, 4, 5]), (15, [0, 3, 4, 5, 14]), (16, [0, 3, 4, 5]), (17, [0, 3, 4, 5, 14]), (18, [0, 4, 5]), (19, [0, 3, 4, 5, 14]), (20, [0, 4, 5]), (21, [0, 4, 5]), (22, [0, 3, 4, 5, 14]), (23, [0, 4, 5]), (24, [0, 4, 5]), (25, [0, 3, 4, 5, 14]), (26, [0, 3, 4, 5]), (27, [0, 3, 4, 5, 14]), (28, [0, 3, 4, 5]), (29, [0, 3, 4, 5, 6]), (30, [0, 3, 4, 5, 6, 7]), (31, [0, 3, 4, 5, 6, 7]), (32, [0, 3, 4, 5, 6, 7]), (33, [0, 4, 5])], dp := look2 [(18, [[], [0], [], [2], [2, 3], [2, 3, 4], [2, 3, 4, 5], [], [2, 3, 4, 5, 7], [2, 3, 4, 5, 6, 7, 8], [2, 3, 4, 5, 6, 7, 8, 9], [2, 3, 4, 5, 6, 7, 8, 9, 10], [2, 3, 4, 5, 6, 7, 8, 9, 10, 11], [0, 1, 2, 3, 4, 5, 6, 7, 8, 9, 10, 11, 12], [0, 1, 2, 3, 4, 5, 6, 7, 8, 9, 10, 11, 12, 13], [0, 1, 2, 3, 4, 5, 6, 7, 8, 9, 10, 11, 12, 13, 14]]), (21, [[], [0], [], [], [3], [2, 3, 4], [2, 3, 4, 5], [0, 1, 2, 3, 4, 5, 6], [0, 1, 2, 3, 4, 5, 6, 7], [0, 1, 2, 3, 4, 5, 6, 7, 8]]), (24, [[], [0], [], [2], [2, 3], [2, 3, 4], [0, 1, 2, 3, 4, 5], [0, 1, 2, 3, 4, 5, 6]]), (26, [[], [0], [], [2], [2, 3], [2, 3, 4], [], [2, 3, 4, 6], [2, 3, 4, 5, 6, 7], [2, 3, 4, 5, 6, 7, 8], [2, 3, 4, 5, 6, 7, 8, 9], [0, 1, 2, 3, 4, 5, 6, 7, 8, 9, 10], [0, 1, 2, 3, 4, 5, 6, 7, 8, 9, 10, 11], [0, 1, 2, 3, 4, 5, 6, 7, 8, 9, 10, 11, 12]]), (32, [[], [0], [], [2], [2, 3], [2, 3, 4], [], [6], [2, 3, 4, 5, 6, 7], [0, 1, 2, 3, 4, 5, 6, 7, 8], [0, 1, 2, 3, 4, 5, 6, 7, 8, 9], [0, 1, 2, 3, 4, 5, 6, 7, 8, 9, 10]])], md := look3 [(2, 1, [1, 0]), (4, 1, [1, 0]), (14, 2, [1, 0]), (16, 5, [1, 0]), (18, 3, [1, 0]), (18, 8, [1, 0]), (21, 4, [1, 0]), (26, 7, [1, 0]), (28, 1, [1, 0]), (32, 9, [2])] }
attribute [local push_cast] E110
set_option maxRecDepth 20000 in
set_option maxHeartbeats 4000000 in
theorem l4Spoil (c : List Int) (p : Int) (s : Store) (hc : okCode c) (hp : 0 ≤ p) (hp2 : p ≤ 9000) (hs : gS s) : ∃ r, spR c p 10 r ∧ Does Tryz.prog 110 [.pb true (rdC1 c p), .ag (storeC true s)] r := by
  refine does_ex (E := E110) (rs := [.cell 4 26]) (lent := [true]) tOk rfl Tryz.func110 rfl (by decide) rfl rfl (Nat.le_of_ble_eq_true rfl) (Nat.le_of_ble_eq_true rfl) ?_
  obtain ⟨hok, hP, hw1, hw8, hI⟩ := hs
  have hl := hok.1.1
  (simp -dsimp (disch := first | omega | (simp only [LR] <;> omega) | fail) only [push_cast, simprocAttr, -Nat.reduceSubDiff]) <;> (repeat (refine ex_draw (by kernel_rfl) ?_; simp -dsimp (disch := first | omega | (simp only [LR] <;> omega) | fail) only [push_cast, simprocAttr, -Nat.reduceSubDiff]))
  refine ex_call (l4Copy s hok) ?_
  obtain ⟨k, hk, hd⟩ := pick_nat c p 8 hc hp (by omega) (by omega) (by omega)
  (simp -dsimp (disch := first | omega | (simp only [LR] <;> omega) | fail) only [push_cast, simprocAttr, -Nat.reduceSubDiff]) <;> (repeat (refine ex_draw (by kernel_rfl) ?_; simp -dsimp (disch := first | omega | (simp only [LR] <;> omega) | fail) only [push_cast, simprocAttr, -Nat.reduceSubDiff]))
  refine ex_call hd ?_
  clear hd
  obtain ⟨wn, hwn⟩ := nat_of' (show 0 ≤ s.w by omega)
  by_cases k0 : k = 0
  · subst k0
    obtain ⟨d, hd0, hd⟩ := pick_nat c (p + 1) 3 hc (by omega) (by omega) (by omega) (by omega)
    (simp -dsimp (disch := first | omega | (simp only [lrep3, LR] <;> omega) | fail) only [push_cast, lrep3, simprocAttr, -Nat.reduceSubDiff]) <;> (repeat (refine ex_draw (by kernel_rfl) ?_; simp -dsimp (disch := first | omega | (simp only [lrep3, LR] <;> omega) | fail) only [push_cast, lrep3, simprocAttr, -Nat.reduceSubDiff]))
    refine ex_call hd ?_
    have fin : ∀ z : Int, spR c p 10 (.ag [.sc (.int .i64 z), .sc (.int .i64 s.r), .sl true 2 (s.I.map (itemC true)), .sl true 1 (s.P.map strR)], [some (.pb true (rdC1 c (p + 1 + 1)))]) := fun z =>
      ⟨{ s with w := z }, p + 1 + 1, rfl, hok, by omega, by omega⟩
    rcases (show d = 0 ∨ d = 1 ∨ d = 2 by omega) with rfl | rfl | rfl
    all_goals
      (simp -dsimp (disch := first | omega | (simp only [lrep3, LR] <;> omega) | fail) only [push_cast, lrep3, simprocAttr, -Nat.reduceSubDiff]) <;> (repeat (refine ex_draw (by kernel_rfl) ?_; simp -dsimp (disch := first | omega | (simp only [lrep3, LR] <;> omega) | fail) only [push_cast, lrep3, simprocAttr, -Nat.reduceSubDiff]))
      exact ⟨_, fin _, rfl⟩
  by_cases k1 : k = 1
  · subst k1
    (simp -dsimp (disch := first | omega | (simp only [LR] <;> omega) | fail) only [push_cast, simprocAttr, -Nat.reduceSubDiff]) <;> (repeat (refine ex_draw (by kernel_rfl) ?_; simp -dsimp (disch := first | omega | (simp only [LR] <;> omega) | fail) only [push_cast, simprocAttr, -Nat.reduceSubDiff]))
    refine ex_call (l4Bytes s hok) ?_
    obtain ⟨d, hd0, hd⟩ := pick_nat c (p + 1) 3 hc (by omega) (by omega) (by omega) (by omega)
    (simp -dsimp (disch := first | omega | (simp only [lrep3, LR] <;> omega) | fail) only [push_cast, lrep3, simprocAttr, -Nat.reduceSubDiff]) <;> (repeat (refine ex_draw (by kernel_rfl) ?_; simp -dsimp (disch := first | omega | (simp only [lrep3, LR] <;> omega) | fail) only [push_cast, lrep3, simprocAttr, -Nat.reduceSubDiff]))
    refine ex_call hd ?_
    have fin : ∀ z : Int, spR c p 10 (.ag [.sc (.int .i64 s.w), .sc (.int .i64 z), .sl true 2 (s.I.map (itemC true)), .sl true 1 (s.P.map strR)], [some (.pb true (rdC1 c (p + 1 + 1)))]) := fun z =>
      ⟨{ s with r := z }, p + 1 + 1, rfl, hok, by omega, by omega⟩
    rcases (show d = 0 ∨ d = 1 ∨ d = 2 by omega) with rfl | rfl | rfl
    all_goals
      (simp -dsimp (disch := first | omega | (simp only [lrep3, LR] <;> omega) | fail) only [push_cast, lrep3, simprocAttr, -Nat.reduceSubDiff]) <;> (repeat (refine ex_draw (by kernel_rfl) ?_; simp -dsimp (disch := first | omega | (simp only [lrep3, LR] <;> omega) | fail) only [push_cast, lrep3, simprocAttr, -Nat.reduceSubDiff]))
      exact ⟨_, fin _, rfl⟩
  by_cases k2 : k = 2
  · subst k2
    obtain ⟨e, he0, hd⟩ := pick_nat c (p + 1) 2 hc (by omega) (by omega) (by omega) (by omega)
    (simp -dsimp (disch := first | omega | (simp only [lrep3, LR] <;> omega) | fail) only [push_cast, lrep3, simprocAttr, -Nat.reduceSubDiff]) <;> (repeat (refine ex_draw (by kernel_rfl) ?_; simp -dsimp (disch := first | omega | (simp only [lrep3, LR] <;> omega) | fail) only [push_cast, lrep3, simprocAttr, -Nat.reduceSubDiff]))
    refine ex_call hd ?_
    obtain ⟨m, hm⟩ := nat_of' (show 0 ≤ (7000 : Int) + e by omega)
    (simp -dsimp (disch := first | omega | (simp only [lrep3, wr_id, hm, LR] <;> omega) | fail) only [push_cast, lrep3, wr_id, hm, simprocAttr, -Nat.reduceSubDiff]) <;> (repeat (refine ex_draw (by kernel_rfl) ?_; simp -dsimp (disch := first | omega | (simp only [lrep3, wr_id, hm, LR] <;> omega) | fail) only [push_cast, lrep3, wr_id, hm, simprocAttr, -Nat.reduceSubDiff]))
    refine ex_some (l1Many ⟨#[98]⟩ m 7001 (by omega) (by rw [sz1b]; omega) (by omega) (by rw [sz1b]; omega)) ?_
    rintro _ ⟨t, rfl, ht⟩
    obtain ⟨d, hd0, hd⟩ := pick_nat c (p + 1 + 1) 3 hc (by omega) (by omega) (by omega) (by omega)
    (simp -dsimp (disch := first | omega | (simp only [lrep3, wr_id, hm, LR] <;> omega) | fail) only [push_cast, lrep3, wr_id, hm, simprocAttr, -Nat.reduceSubDiff]) <;> (repeat (refine ex_draw (by kernel_rfl) ?_; simp -dsimp (disch := first | omega | (simp only [lrep3, wr_id, hm, LR] <;> omega) | fail) only [push_cast, lrep3, wr_id, hm, simprocAttr, -Nat.reduceSubDiff]))
    refine ex_call hd ?_
    have fin : ∀ z : Str, z.size ≤ 7001 → spR c p 10 (.ag [.sc (.int .i64 s.w), .sc (.int .i64 s.r), .sl true 2 (s.I.map (itemC true) ++ [[.sc (.string z), .sc (.int .i64 0)]]), .sl true 1 (s.P.map strR)], [some (.pb true (rdC1 c (p + 1 + 1 + 1)))]) := fun z hz =>
      ⟨{ s with I := s.I ++ [⟨z, 0⟩] }, p + 1 + 1 + 1, by simp [storeC, itemC], ⟨okL_snoc hok.1 (by omega) (by show z.size ≤ 2097152; omega), hok.2⟩, by omega, by omega⟩
    rcases (show d = 0 ∨ d = 1 ∨ d = 2 by omega) with rfl | rfl | rfl
    · (simp -dsimp (disch := first | omega | (simp only [lrep3, wr_id, LR] <;> omega) | fail) only [push_cast, lrep3, wr_id, simprocAttr, -Nat.reduceSubDiff]) <;> (repeat (refine ex_draw (by kernel_rfl) ?_; simp -dsimp (disch := first | omega | (simp only [lrep3, wr_id, LR] <;> omega) | fail) only [push_cast, lrep3, wr_id, simprocAttr, -Nat.reduceSubDiff]))
      exact ⟨_, fin _ (by decide), rfl⟩
    · (simp -dsimp (disch := first | omega | (simp only [lrep3, wr_id, LR] <;> omega) | fail) only [push_cast, lrep3, wr_id, simprocAttr, -Nat.reduceSubDiff]) <;> (repeat (refine ex_draw (by kernel_rfl) ?_; simp -dsimp (disch := first | omega | (simp only [lrep3, wr_id, LR] <;> omega) | fail) only [push_cast, lrep3, wr_id, simprocAttr, -Nat.reduceSubDiff]))
      exact ⟨_, fin _ (by decide), rfl⟩
    · (simp -dsimp (disch := first | omega | (simp only [lrep3, wr_id, LR] <;> omega) | fail) only [push_cast, lrep3, wr_id, simprocAttr, -Nat.reduceSubDiff]) <;> (repeat (refine ex_draw (by kernel_rfl) ?_; simp -dsimp (disch := first | omega | (simp only [lrep3, wr_id, LR] <;> omega) | fail) only [push_cast, lrep3, wr_id, simprocAttr, -Nat.reduceSubDiff]))
      exact ⟨_, fin _ ht, rfl⟩
  by_cases k3 : k = 3
  · subst k3
    by_cases h0 : 0 < s.I.length
    · obtain ⟨x, hx⟩ := ex_get h0
      have hxo := hok.1.2 x (List.mem_of_getElem? hx)
      obtain ⟨d, hd0, hd⟩ := pick_nat c (p + 1) 3 hc (by omega) (by omega) (by omega) (by omega)
      (simp -dsimp (disch := first | omega | (simp only [lrep3, LR] <;> omega) | fail) only [push_cast, lrep3, simprocAttr, -Nat.reduceSubDiff]) <;> (repeat (refine ex_draw (by kernel_rfl) ?_; simp -dsimp (disch := first | omega | (simp only [lrep3, LR] <;> omega) | fail) only [push_cast, lrep3, simprocAttr, -Nat.reduceSubDiff]))
      refine ex_call hd ?_
      have fin : ∀ z : Int, spR c p 10 (.ag [.sc (.int .i64 s.w), .sc (.int .i64 s.r), .sl true 2 ((s.I.set 0 ⟨x.t, z⟩).map (itemC true)), .sl true 1 (s.P.map strR)], [some (.pb true (rdC1 c (p + 1 + 1)))]) := fun z =>
        ⟨{ s with I := s.I.set 0 ⟨x.t, z⟩ }, p + 1 + 1, rfl, ⟨okL_set hok.1 hxo, hok.2⟩, by omega, by omega⟩
      rcases (show d = 0 ∨ d = 1 ∨ d = 2 by omega) with rfl | rfl | rfl
      all_goals
        (simp -dsimp (disch := first | omega | (simp only [lrep3, hx, set_item, Nat.add_zero, LR] <;> omega) | fail) only [push_cast, lrep3, hx, set_item, Nat.add_zero, simprocAttr, -Nat.reduceSubDiff]) <;> (repeat (refine ex_draw (by kernel_rfl) ?_; simp -dsimp (disch := first | omega | (simp only [lrep3, hx, set_item, Nat.add_zero, LR] <;> omega) | fail) only [push_cast, lrep3, hx, set_item, Nat.add_zero, simprocAttr, -Nat.reduceSubDiff]))
        exact ⟨_, fin _, rfl⟩
    · (simp -dsimp (disch := first | omega | (simp only [LR] <;> omega) | fail) only [push_cast, simprocAttr, -Nat.reduceSubDiff]) <;> (repeat (refine ex_draw (by kernel_rfl) ?_; simp -dsimp (disch := first | omega | (simp only [LR] <;> omega) | fail) only [push_cast, simprocAttr, -Nat.reduceSubDiff]))
      exact ⟨_, ⟨s, p + 1, rfl, hok, by omega, by omega⟩, rfl⟩
  by_cases k4 : k = 4
  · subst k4
    by_cases h0 : 1 < s.I.length
    · obtain ⟨x, hx⟩ := ex_get (show 0 < s.I.length by omega)
      obtain ⟨y, hy⟩ := ex_get h0
      have hyo := hok.1.2 y (List.mem_of_getElem? hy)
      (simp -dsimp (disch := first | omega | (simp only [hx, hy, set_item, Nat.add_zero, LR] <;> omega) | fail) only [push_cast, hx, hy, set_item, Nat.add_zero, simprocAttr, -Nat.reduceSubDiff]) <;> (repeat (refine ex_draw (by kernel_rfl) ?_; simp -dsimp (disch := first | omega | (simp only [hx, hy, set_item, Nat.add_zero, LR] <;> omega) | fail) only [push_cast, hx, hy, set_item, Nat.add_zero, simprocAttr, -Nat.reduceSubDiff]))
      exact ⟨_, ⟨{ s with I := s.I.set 0 ⟨y.t, y.u⟩ }, p + 1, rfl, ⟨okL_set hok.1 hyo, hok.2⟩, by omega, by omega⟩, rfl⟩
    · (simp -dsimp (disch := first | omega | (simp only [LR] <;> omega) | fail) only [push_cast, simprocAttr, -Nat.reduceSubDiff]) <;> (repeat (refine ex_draw (by kernel_rfl) ?_; simp -dsimp (disch := first | omega | (simp only [LR] <;> omega) | fail) only [push_cast, simprocAttr, -Nat.reduceSubDiff]))
      exact ⟨_, ⟨s, p + 1, rfl, hok, by omega, by omega⟩, rfl⟩
  by_cases k5 : k = 5
  · subst k5
    (simp -dsimp (disch := first | omega | (simp only [lrep3, hwn, LR] <;> omega) | fail) only [push_cast, lrep3, hwn, simprocAttr, -Nat.reduceSubDiff]) <;> (repeat (refine ex_draw (by kernel_rfl) ?_; simp -dsimp (disch := first | omega | (simp only [lrep3, hwn, LR] <;> omega) | fail) only [push_cast, lrep3, hwn, simprocAttr, -Nat.reduceSubDiff]))
    refine ex_some (l1Many ⟨#[255]⟩ wn 8 (by omega) (by rw [sz1b]; omega) (by omega) (by rw [sz1b]; omega)) ?_
    rintro _ ⟨t, rfl, ht⟩
    obtain ⟨d, hd0, hd⟩ := pick_nat c (p + 1) 3 hc (by omega) (by omega) (by omega) (by omega)
    (simp -dsimp (disch := first | omega | (simp only [lrep3, hwn, LR] <;> omega) | fail) only [push_cast, lrep3, hwn, simprocAttr, -Nat.reduceSubDiff]) <;> (repeat (refine ex_draw (by kernel_rfl) ?_; simp -dsimp (disch := first | omega | (simp only [lrep3, hwn, LR] <;> omega) | fail) only [push_cast, lrep3, hwn, simprocAttr, -Nat.reduceSubDiff]))
    refine ex_call hd ?_
    have fin : ∀ z : Str, z.size ≤ 8 → spR c p 10 (.ag [.sc (.int .i64 wn), .sc (.int .i64 s.r), .sl true 2 (s.I.map (itemC true)), .sl true 1 (s.P.map strR ++ [[.sc (.string z)]])], [some (.pb true (rdC1 c (p + 1 + 1)))]) := fun z hz =>
      ⟨{ s with P := s.P ++ [z] }, p + 1 + 1, by simp [storeC, strR, hwn], ⟨hok.1, okL_snoc hok.2 (by omega) (by show z.size ≤ 2097152; omega)⟩, by omega, by omega⟩
    rcases (show d = 0 ∨ d = 1 ∨ d = 2 by omega) with rfl | rfl | rfl
    · (simp -dsimp (disch := first | omega | (simp only [lrep3, hwn, LR] <;> omega) | fail) only [push_cast, lrep3, hwn, simprocAttr, -Nat.reduceSubDiff]) <;> (repeat (refine ex_draw (by kernel_rfl) ?_; simp -dsimp (disch := first | omega | (simp only [lrep3, hwn, LR] <;> omega) | fail) only [push_cast, lrep3, hwn, simprocAttr, -Nat.reduceSubDiff]))
      exact ⟨_, fin _ (by decide), rfl⟩
    · (simp -dsimp (disch := first | omega | (simp only [lrep3, hwn, LR] <;> omega) | fail) only [push_cast, lrep3, hwn, simprocAttr, -Nat.reduceSubDiff]) <;> (repeat (refine ex_draw (by kernel_rfl) ?_; simp -dsimp (disch := first | omega | (simp only [lrep3, hwn, LR] <;> omega) | fail) only [push_cast, lrep3, hwn, simprocAttr, -Nat.reduceSubDiff]))
      exact ⟨_, fin _ (by decide), rfl⟩
    · (simp -dsimp (disch := first | omega | (simp only [lrep3, hwn, LR] <;> omega) | fail) only [push_cast, lrep3, hwn, simprocAttr, -Nat.reduceSubDiff]) <;> (repeat (refine ex_draw (by kernel_rfl) ?_; simp -dsimp (disch := first | omega | (simp only [lrep3, hwn, LR] <;> omega) | fail) only [push_cast, lrep3, hwn, simprocAttr, -Nat.reduceSubDiff]))
      exact ⟨_, fin _ ht, rfl⟩
  by_cases k6 : k = 6
  · subst k6
    obtain ⟨d, hd0, hd⟩ := pick_nat c (p + 1) 2 hc (by omega) (by omega) (by omega) (by omega)
    (simp -dsimp (disch := first | omega | (simp only [wr_id, LR] <;> omega) | fail) only [push_cast, wr_id, simprocAttr, -Nat.reduceSubDiff]) <;> (repeat (refine ex_draw (by kernel_rfl) ?_; simp -dsimp (disch := first | omega | (simp only [wr_id, LR] <;> omega) | fail) only [push_cast, wr_id, simprocAttr, -Nat.reduceSubDiff]))
    refine ex_call hd ?_
    clear hd
    (simp -dsimp (disch := first | omega | (simp only [wr_id, LR] <;> omega) | fail) only [push_cast, wr_id, simprocAttr, -Nat.reduceSubDiff]) <;> (repeat (refine ex_draw (by kernel_rfl) ?_; simp -dsimp (disch := first | omega | (simp only [wr_id, LR] <;> omega) | fail) only [push_cast, wr_id, simprocAttr, -Nat.reduceSubDiff]))
    refine ex_loop (α := Nat × List Str) (fun q => q.1 ≤ 12 ∧ q.2.length ≤ 11 ∧ okL okStr q.2 ∧ ∀ j, j < q.1 → byS wn j ∈ q.2)
      (fun q => ⟨[(0, .pt 1 0 0), (3, .pt 2 0 0), (4, .pt 5 0 0), (5, .pt 8 0 0), (6, .sc (.int .i64 (10 + (d : Int)))), (7, .sc (.int .i64 q.1))],
        [(1, .bx (rdC1 c (p + 1 + 1))), (2, .bx [.sc (.int .i64 s.w), .sc (.int .i64 s.r), .ow 3 0 s.I.length, .ow 4 0 s.P.length]), (3, .ar 2 0 (s.I.map (itemC true))), (4, .ar 1 0 (s.P.map strR)), (5, .bx [.sc (.int .i64 0), .sc (.int .i64 0), .ow 6 0 0, .ow 7 0 0]), (6, .ar 2 0 []), (7, .ar 1 0 []),
          (8, .bx [.sc (.int .i64 s.w), .sc (.int .i64 s.r), .ow 9 0 s.I.length, .ow 10 0 q.2.length]), (9, .ar 2 0 (s.I.map (itemC true))), (10, .ar 1 0 (q.2.map strR))], 11⟩) (fun q => 12 - q.1) (0, s.P) ⟨Nat.zero_le _, by show s.P.length ≤ 11; omega, hok.2, fun j hj => by omega⟩ ?_ ?_
    · simp -dsimp (disch := first | omega | (simp only [LR] <;> omega) | fail) only [push_cast, simprocAttr, -Nat.reduceSubDiff]
    rintro ⟨i, L⟩ ⟨g1, g2, g3, g4⟩ ih
    replace g1 : i ≤ 12 := g1
    replace g2 : L.length ≤ 11 := g2
    replace g3 : okL okStr L := g3
    replace g4 : ∀ j, j < i → byS wn j ∈ L := g4
    have hiL := byS_len (w := wn) (by omega) (by omega) g4
    by_cases h : (L.length : Int) < 10 + d
    · have e8 : wr .u8 (i : Int) = i := by rw [wr_u8]; omega
      have hsz : (⟨#[UInt8.ofNat i]⟩ : ByteArray).size = 1 := rfl
      (simp -dsimp (disch := first | omega | (simp only [wr_id, e8, bytesOf, byteOf, hwn, LR] <;> omega) | fail) only [push_cast, wr_id, e8, bytesOf, byteOf, hwn, simprocAttr, -Nat.reduceSubDiff]) <;> (repeat (refine ex_draw (by kernel_rfl) ?_; simp -dsimp (disch := first | omega | (simp only [wr_id, e8, bytesOf, byteOf, hwn, LR] <;> omega) | fail) only [push_cast, wr_id, e8, bytesOf, byteOf, hwn, simprocAttr, -Nat.reduceSubDiff]))
      refine ex_call (l1ManyX ⟨#[UInt8.ofNat i]⟩ wn (by omega) (by rw [hsz]; omega) (by rw [hsz]; omega)) ?_
      rw [show manyS ⟨#[UInt8.ofNat i]⟩ wn = byS wn i from rfl]
      (simp -dsimp (disch := first | omega | (simp only [wr_id, e8, bytesOf, byteOf, hwn, LR] <;> omega) | fail) only [push_cast, wr_id, e8, bytesOf, byteOf, hwn, simprocAttr, -Nat.reduceSubDiff]) <;> (repeat (refine ex_draw (by kernel_rfl) ?_; simp -dsimp (disch := first | omega | (simp only [wr_id, e8, bytesOf, byteOf, hwn, LR] <;> omega) | fail) only [push_cast, wr_id, e8, bytesOf, byteOf, hwn, simprocAttr, -Nat.reduceSubDiff]))
      refine ex_call (l4Add L (byS wn i) (by omega)) ?_
      have ha := addS_len1 L (byS wn i)
      have hi := addS_in L (byS wn i)
      have hbs : (byS wn i).size ≤ 8 := by unfold byS; rw [manyS_sz, hsz]; omega
      (simp -dsimp (disch := first | omega | (simp only [wr_id, e8, bytesOf, byteOf, hwn, LR] <;> omega) | fail) only [push_cast, wr_id, e8, bytesOf, byteOf, hwn, simprocAttr, -Nat.reduceSubDiff]) <;> (repeat (refine ex_draw (by kernel_rfl) ?_; simp -dsimp (disch := first | omega | (simp only [wr_id, e8, bytesOf, byteOf, hwn, LR] <;> omega) | fail) only [push_cast, wr_id, e8, bytesOf, byteOf, hwn, simprocAttr, -Nat.reduceSubDiff]))
      refine ih (i + 1, addS L (byS wn i)) _ (by show 12 - (i + 1) < 12 - i; omega) ⟨by show i + 1 ≤ 12; omega, by show (addS L (byS wn i)).length ≤ 11; omega, ⟨by show (addS L (byS wn i)).length ≤ _; omega, fun a ha => by
        rcases addS_of ha with q | q
        · exact g3.2 a q
        · rw [q]; show (byS wn i).size ≤ 2097152; omega⟩, fun j hj => by
        by_cases q : j = i
        · rw [q]; exact hi.1
        · exact hi.2 _ (g4 j (by omega))⟩ ?_
      simp -dsimp (disch := first | omega | (simp only [wr_id, hwn, LR] <;> omega) | fail) only [push_cast, wr_id, hwn, simprocAttr, -Nat.reduceSubDiff]
    · (simp -dsimp (disch := first | omega | (simp only [wr_id, LR] <;> omega) | fail) only [push_cast, wr_id, simprocAttr, -Nat.reduceSubDiff]) <;> (repeat (refine ex_draw (by kernel_rfl) ?_; simp -dsimp (disch := first | omega | (simp only [wr_id, LR] <;> omega) | fail) only [push_cast, wr_id, simprocAttr, -Nat.reduceSubDiff]))
      exact ⟨_, ⟨{ s with P := L }, p + 1 + 1, rfl, ⟨hok.1, g3⟩, by omega, by omega⟩, rfl⟩
  obtain ⟨d, hd0, hd⟩ := pick_nat c (p + 1) 2 hc (by omega) (by omega) (by omega) (by omega)
  (simp -dsimp (disch := first | omega | (simp only [k0, k1, k2, k3, k4, k5, k6, wr_id, LR] <;> omega) | fail) only [push_cast, k0, k1, k2, k3, k4, k5, k6, wr_id, simprocAttr, -Nat.reduceSubDiff]) <;> (repeat (refine ex_draw (by kernel_rfl) ?_; simp -dsimp (disch := first | omega | (simp only [k0, k1, k2, k3, k4, k5, k6, wr_id, LR] <;> omega) | fail) only [push_cast, k0, k1, k2, k3, k4, k5, k6, wr_id, simprocAttr, -Nat.reduceSubDiff]))
  refine ex_call hd ?_
  clear hd
  by_cases hw2 : 2 < s.w
  rotate_left
  · (simp -dsimp (disch := first | omega | (simp only [wr_id, LR] <;> omega) | fail) only [push_cast, wr_id, simprocAttr, -Nat.reduceSubDiff]) <;> (repeat (refine ex_draw (by kernel_rfl) ?_; simp -dsimp (disch := first | omega | (simp only [wr_id, LR] <;> omega) | fail) only [push_cast, wr_id, simprocAttr, -Nat.reduceSubDiff]))
    exact ⟨_, ⟨{ s with r := 60000 }, p + 1 + 1, rfl, hok, by omega, by omega⟩, rfl⟩
  (simp -dsimp (disch := first | omega | (simp only [wr_id, LR] <;> omega) | fail) only [push_cast, wr_id, simprocAttr, -Nat.reduceSubDiff]) <;> (repeat (refine ex_draw (by kernel_rfl) ?_; simp -dsimp (disch := first | omega | (simp only [wr_id, LR] <;> omega) | fail) only [push_cast, wr_id, simprocAttr, -Nat.reduceSubDiff]))
  refine ex_loop (α := Nat × List Str) (fun q => q.2.length = q.1 ∧ q.1 ≤ 1001 ∧ ∀ x ∈ q.2, x.size ≤ 10000)
    (fun q => ⟨[(0, .pt 1 0 0), (4, .pt 2 0 0), (5, .pt 5 0 0), (8, .sc (.int .i64 (1000 + (d : Int)))), (9, .ow 8 0 q.2.length), (10, .sc (.int .i64 q.1))],
      [(1, .bx (rdC1 c (p + 1 + 1))), (2, .bx [.sc (.int .i64 0), .sc (.int .i64 0), .ow 3 0 0, .ow 4 0 0]), (3, .ar 2 0 []), (4, .ar 1 0 []),
        (5, .bx [.sc (.int .i64 s.w), .sc (.int .i64 60000), .ow 6 0 0, .ow 7 0 s.P.length]), (6, .ar 2 0 []), (7, .ar 1 0 (s.P.map strR)), (8, .ar 1 0 (q.2.map strR))], 9⟩) (fun q => 1002 - q.1) (0, []) ⟨rfl, by show 0 ≤ 1001; omega, fun x hx => by cases hx⟩ ?_ ?_
  · simp -dsimp (disch := first | omega | (simp only [LR] <;> omega) | fail) only [push_cast, simprocAttr, -Nat.reduceSubDiff]
  rintro ⟨i, L⟩ ⟨g1, g2, g3⟩ ih
  replace g1 : L.length = i := g1
  replace g2 : i ≤ 1001 := g2
  replace g3 : ∀ x ∈ L, x.size ≤ 10000 := g3
  by_cases h : (L.length : Int) < 1000 + d
  · (simp -dsimp (disch := first | omega | (simp only [wr_id, LR] <;> omega) | fail) only [push_cast, wr_id, simprocAttr, -Nat.reduceSubDiff]) <;> (repeat (refine ex_draw (by kernel_rfl) ?_; simp -dsimp (disch := first | omega | (simp only [wr_id, LR] <;> omega) | fail) only [push_cast, wr_id, simprocAttr, -Nat.reduceSubDiff]))
    refine ex_call (l3Dec i (by omega)) ?_
    have hdl : (stB (Lib.decDigits i)).size ≤ 1002 := by have := decD_len i; rw [stB_size]; omega
    generalize stB (Lib.decDigits i) = D at *
    (simp -dsimp (disch := first | omega | (simp only [wr_id, sz1b, LR] <;> omega) | fail) only [push_cast, wr_id, sz1b, simprocAttr, -Nat.reduceSubDiff]) <;> (repeat (refine ex_draw (by kernel_rfl) ?_; simp -dsimp (disch := first | omega | (simp only [wr_id, sz1b, LR] <;> omega) | fail) only [push_cast, wr_id, sz1b, simprocAttr, -Nat.reduceSubDiff]))
    refine ih (i + 1, L ++ [⟨#[116]⟩ ++ D]) _ (by show 1002 - (i + 1) < 1002 - i; omega) ⟨by show (L ++ [_]).length = i + 1; rw [List.length_append, g1]; rfl, by show i + 1 ≤ 1001; omega, fun x hx => by
      rcases List.mem_append.1 hx with q | q
      · exact g3 x q
      · rw [List.mem_singleton.1 q, ByteArray.size_append, sz1b]; omega⟩ ?_
    simp -dsimp (disch := first | omega | (simp only [wr_id, List.map_append, List.length_append, List.length_cons, List.length_nil, List.map_cons, List.map_nil, LR] <;> omega) | fail) only [push_cast, wr_id, List.map_append, List.length_append, List.length_cons, List.length_nil, List.map_cons, List.map_nil, simprocAttr, -Nat.reduceSubDiff]
  · (simp -dsimp (disch := first | omega | (simp only [wr_id, LR] <;> omega) | fail) only [push_cast, wr_id, simprocAttr, -Nat.reduceSubDiff]) <;> (repeat (refine ex_draw (by kernel_rfl) ?_; simp -dsimp (disch := first | omega | (simp only [wr_id, LR] <;> omega) | fail) only [push_cast, wr_id, simprocAttr, -Nat.reduceSubDiff]))
    refine ex_some (l4Sorted s.w L.length L rfl (by omega) g3) ?_
    rintro _ ⟨J, rfl, hJ, hJs⟩
    (simp -dsimp (disch := first | omega | (simp only [wr_id, LR] <;> omega) | fail) only [push_cast, wr_id, simprocAttr, -Nat.reduceSubDiff]) <;> (repeat (refine ex_draw (by kernel_rfl) ?_; simp -dsimp (disch := first | omega | (simp only [wr_id, LR] <;> omega) | fail) only [push_cast, wr_id, simprocAttr, -Nat.reduceSubDiff]))
    exact ⟨_, ⟨{ s with r := 60000, I := J }, p + 1 + 1, rfl, ⟨⟨by show J.length ≤ _; omega, fun a ha => by have := hJs a ha; show a.t.size ≤ 2097152; omega⟩, hok.2⟩, by omega, by omega⟩, rfl⟩
end Go.Proofs.YtkkmgjhfjhcdmaaGreatDoor.Mx

/- Things «to» describe, «to» read, «to» build: drawn. -/
namespace Go.Proofs.YtkkmgjhfjhcdmaaGreatDoor.Mx
set_option linter.all false
open Go Go.RowKit Go.Proofs
set_option linter.unusedSimpArgs false
theorem take_code {c : List Int} (hc : c.length ≤ 1048576) (hb : ∀ x ∈ c, 0 ≤ x ∧ x ≤ 255) : okCode (c.take 2000) := ⟨by rw [List.length_take]; omega, fun x hx => hb x (List.mem_of_mem_take hx)⟩
end Go.Proofs.YtkkmgjhfjhcdmaaGreatDoor.Mx

/- Drawn stores: any; a thing «to» save. -/
namespace Go.Proofs.YtkkmgjhfjhcdmaaGreatDoor.Mx
set_option linter.all false
open Go Go.RowKit Go.Proofs
set_option linter.unusedSimpArgs false
def E51 : Env := { T := T0, kp := look [(0, [0]), (1, [0, 2]), (2, [0, 2, 3]), (3, [0, 2, 3]), (4, [0, 2, 3])], md := look3 [(1, 1, [1, 0, 0]), (2, 1, [1, 0]), (3, 2, [1, 2])] }
attribute [local push_cast] E51
set_option maxRecDepth 20000 in
set_option maxHeartbeats 1000000 in
theorem l4Any (c : List Int) (p : Int) (hc : okCode c) (hp : 0 ≤ p) (hp2 : p ≤ 8000) : ∃ r, spR c p 120 r ∧ Does Tryz.prog 51 [.pb true (rdC1 c p)] r := by
  refine does_ex (E := E51) (rs := [.cell 2 26]) (lent := [true]) tOk rfl Tryz.func51 rfl (by decide) rfl rfl (Nat.le_of_ble_eq_true rfl) (Nat.le_of_ble_eq_true rfl) ?_
  (simp -dsimp (disch := first | omega | (simp only [LR] <;> omega) | fail) only [push_cast, simprocAttr, -Nat.reduceSubDiff]) <;> (repeat (refine ex_draw (by kernel_rfl) ?_; simp -dsimp (disch := first | omega | (simp only [LR] <;> omega) | fail) only [push_cast, simprocAttr, -Nat.reduceSubDiff]))
  refine ex_some (l4Draw c p hc hp (by omega)) ?_
  rintro _ ⟨s, i, rfl, hs, hi1, hi2⟩
  obtain ⟨k, hk, hd⟩ := pick_nat c i 14 hc (by omega) (by omega) (by omega) (by omega)
  (simp -dsimp (disch := first | omega | (simp only [LR] <;> omega) | fail) only [push_cast, simprocAttr, -Nat.reduceSubDiff]) <;> (repeat (refine ex_draw (by kernel_rfl) ?_; simp -dsimp (disch := first | omega | (simp only [LR] <;> omega) | fail) only [push_cast, simprocAttr, -Nat.reduceSubDiff]))
  refine ex_call hd ?_
  clear hd
  by_cases h0 : k = 0
  · subst h0
    (simp -dsimp (disch := first | omega | (simp only [LR] <;> omega) | fail) only [push_cast, simprocAttr, -Nat.reduceSubDiff]) <;> (repeat (refine ex_draw (by kernel_rfl) ?_; simp -dsimp (disch := first | omega | (simp only [LR] <;> omega) | fail) only [push_cast, simprocAttr, -Nat.reduceSubDiff]))
    refine ex_some (l4Spoil c (i + 1) s hc (by omega) (by omega) hs) ?_
    rintro _ ⟨u, j, rfl, hu, hj1, hj2⟩
    (simp -dsimp (disch := first | omega | (simp only [LR] <;> omega) | fail) only [push_cast, simprocAttr, -Nat.reduceSubDiff]) <;> (repeat (refine ex_draw (by kernel_rfl) ?_; simp -dsimp (disch := first | omega | (simp only [LR] <;> omega) | fail) only [push_cast, simprocAttr, -Nat.reduceSubDiff]))
    exact ⟨_, ⟨u, j, rfl, hu, by omega, by omega⟩, rfl⟩
  · (simp -dsimp (disch := first | omega | (simp only [h0, LR] <;> omega) | fail) only [push_cast, h0, simprocAttr, -Nat.reduceSubDiff]) <;> (repeat (refine ex_draw (by kernel_rfl) ?_; simp -dsimp (disch := first | omega | (simp only [h0, LR] <;> omega) | fail) only [push_cast, h0, simprocAttr, -Nat.reduceSubDiff]))
    exact ⟨_, ⟨s, i + 1, rfl, hs.1, by omega, by omega⟩, rfl⟩
def svR (r : Ans) : Prop := ∃ (s : Store) (t : Str) (n : Int), r = (.tu [.ag (storeC true s), .sc (.string t), .sc (.int .i64 n)], []) ∧ okStore s ∧ t.size ≤ 10000
def E12 : Env := { T := T0, kp := look [(0, [0]), (1, [0, 2]), (2, [2, 5]), (3, [2, 5, 6]), (4, [2, 5, 6, 7]), (5, [2, 5, 6]), (6, [2, 5, 6, 7])], dp := look2 [(6, [[], [], [], [2], [0, 2, 3], [0, 1, 2, 3, 4], [0, 1, 2, 3, 4, 5]])], md := look3 [(2, 1, [1, 0, 0]), (3, 1, [1]), (4, 1, [1, 0]), (6, 3, [1, 0, 0])] }
attribute [local push_cast] E12
set_option maxRecDepth 20000 in
set_option maxHeartbeats 1000000 in
theorem drawSave (c : List Int) (hc : c.length ≤ 1048576) (hb : ∀ x ∈ c, 0 ≤ x ∧ x ≤ 255) : ∃ r, svR r ∧ Does Tryz.prog 12 [.sl false 1 (c.map numR)] r := by
  refine does_ex (E := E12) (rs := [.cell 2 26, .tmp 3, .tmp 4]) (lent := []) tOk rfl Tryz.func12 rfl (by decide) rfl rfl (Nat.le_of_ble_eq_true rfl) (Nat.le_of_ble_eq_true rfl) ?_
  (simp -dsimp (disch := first | omega | (simp only [LR] <;> omega) | fail) only [push_cast, simprocAttr, -Nat.reduceSubDiff]) <;> (repeat (refine ex_draw (by kernel_rfl) ?_; simp -dsimp (disch := first | omega | (simp only [LR] <;> omega) | fail) only [push_cast, simprocAttr, -Nat.reduceSubDiff]))
  refine ex_call (l1Open c hc) ?_
  have hk := take_code hc hb
  generalize c.take 2000 = e at *
  (simp -dsimp (disch := first | omega | (simp only [LR] <;> omega) | fail) only [push_cast, simprocAttr, -Nat.reduceSubDiff]) <;> (repeat (refine ex_draw (by kernel_rfl) ?_; simp -dsimp (disch := first | omega | (simp only [LR] <;> omega) | fail) only [push_cast, simprocAttr, -Nat.reduceSubDiff]))
  refine ex_some (l4Any e 0 hk (by omega) (by omega)) ?_
  rintro _ ⟨s, i, rfl, hs, hi1, hi2⟩
  (simp -dsimp (disch := first | omega | (simp only [LR] <;> omega) | fail) only [push_cast, simprocAttr, -Nat.reduceSubDiff]) <;> (repeat (refine ex_draw (by kernel_rfl) ?_; simp -dsimp (disch := first | omega | (simp only [LR] <;> omega) | fail) only [push_cast, simprocAttr, -Nat.reduceSubDiff]))
  refine ex_some (l2Thing e i hk (by omega) (by omega)) ?_
  rintro _ ⟨t, j, rfl, ht, hj1, hj2⟩
  obtain ⟨k, hk0, hd⟩ := pick_nat e j 16 hk (by omega) (by omega) (by omega) (by omega)
  (simp -dsimp (disch := first | omega | (simp only [LR] <;> omega) | fail) only [push_cast, simprocAttr, -Nat.reduceSubDiff]) <;> (repeat (refine ex_draw (by kernel_rfl) ?_; simp -dsimp (disch := first | omega | (simp only [LR] <;> omega) | fail) only [push_cast, simprocAttr, -Nat.reduceSubDiff]))
  refine ex_call hd ?_
  clear hd
  by_cases h0 : k = 0
  · subst h0
    (simp -dsimp (disch := first | omega | (simp only [LR] <;> omega) | fail) only [push_cast, simprocAttr, -Nat.reduceSubDiff]) <;> (repeat (refine ex_draw (by kernel_rfl) ?_; simp -dsimp (disch := first | omega | (simp only [LR] <;> omega) | fail) only [push_cast, simprocAttr, -Nat.reduceSubDiff]))
    refine ex_some (l1Many ⟨#[109]⟩ 3001 3001 (by omega) (by rw [sz1]; omega) (by omega) (by rw [sz1]; omega)) ?_
    rintro _ ⟨u, rfl, hu⟩
    (simp -dsimp (disch := first | omega | (simp only [LR] <;> omega) | fail) only [push_cast, simprocAttr, -Nat.reduceSubDiff]) <;> (repeat (refine ex_draw (by kernel_rfl) ?_; simp -dsimp (disch := first | omega | (simp only [LR] <;> omega) | fail) only [push_cast, simprocAttr, -Nat.reduceSubDiff]))
    refine ex_some (l4Now e (j + 1) hk (by omega) (by omega)) ?_
    rintro _ ⟨n, m, rfl, _, _, _, _⟩
    (simp -dsimp (disch := first | omega | (simp only [LR] <;> omega) | fail) only [push_cast, simprocAttr, -Nat.reduceSubDiff]) <;> (repeat (refine ex_draw (by kernel_rfl) ?_; simp -dsimp (disch := first | omega | (simp only [LR] <;> omega) | fail) only [push_cast, simprocAttr, -Nat.reduceSubDiff]))
    exact ⟨_, ⟨s, u, n, rfl, hs, by omega⟩, rfl⟩
  · (simp -dsimp (disch := first | omega | (simp only [h0, LR] <;> omega) | fail) only [push_cast, h0, simprocAttr, -Nat.reduceSubDiff]) <;> (repeat (refine ex_draw (by kernel_rfl) ?_; simp -dsimp (disch := first | omega | (simp only [h0, LR] <;> omega) | fail) only [push_cast, h0, simprocAttr, -Nat.reduceSubDiff]))
    refine ex_some (l4Now e (j + 1) hk (by omega) (by omega)) ?_
    rintro _ ⟨n, m, rfl, _, _, _, _⟩
    (simp -dsimp (disch := first | omega | (simp only [LR] <;> omega) | fail) only [push_cast, simprocAttr, -Nat.reduceSubDiff]) <;> (repeat (refine ex_draw (by kernel_rfl) ?_; simp -dsimp (disch := first | omega | (simp only [LR] <;> omega) | fail) only [push_cast, simprocAttr, -Nat.reduceSubDiff]))
    exact ⟨_, ⟨s, t, n, rfl, hs, by omega⟩, rfl⟩
end Go.Proofs.YtkkmgjhfjhcdmaaGreatDoor.Mx

/- Helpers of the drawn laws: lists of texts held against each other. -/
namespace Go.Proofs.YtkkmgjhfjhcdmaaGreatDoor.Mx
set_option linter.all false
open Go Go.RowKit Go.Proofs
set_option linter.unusedSimpArgs false
def E29 : Env := { T := T0, kp := look [(0, [0, 1]), (1, [0, 1]), (2, []), (3, [0, 1]), (4, [0, 1, 5]), (5, [0, 1, 5]), (6, [0, 1, 5]), (7, []), (8, [])], dp := look2 [(6, [[], [], [0, 1], [0, 1, 2], [], [], [4, 5], [4, 5, 6], [0, 1, 2, 3, 4, 5, 6, 7]])] }
attribute [local push_cast] E29
theorem wTexts (l : List Str) (hl : l.length ≤ 2097152) : Does Tryz.prog 29 [.sl false 1 (l.map strR), .sl false 1 (l.map strR)] (.sc (.bool true), []) := by
  refine does_of (E := E29) (rs := [.tmp 4]) (lent := []) tOk rfl Tryz.func29 rfl (by decide) rfl rfl (Nat.le_of_ble_eq_true rfl) (Nat.le_of_ble_eq_true rfl) ?_
  (simp -dsimp (disch := first | omega | (simp only [LR] <;> omega) | fail) only [push_cast, simprocAttr, -Nat.reduceSubDiff]) <;> (repeat (refine (aw_draw (by kernel_rfl)).2 ?_; simp -dsimp (disch := first | omega | (simp only [LR] <;> omega) | fail) only [push_cast, simprocAttr, -Nat.reduceSubDiff]))
  refine loop_ind (α := Nat) (fun i => i ≤ l.length) (fun i => ⟨[(0, .sl false 1 (l.map strR)), (1, .sl false 1 (l.map strR)), (5, .sc (.int .i64 i))], [], 1⟩) (fun i => l.length - i) 0 (Nat.zero_le _) ?_ ?_
  · simp -dsimp (disch := first | omega | (simp only [LR] <;> omega) | fail) only [push_cast, simprocAttr, -Nat.reduceSubDiff]
  intro i hi ih
  by_cases h : i < l.length
  · obtain ⟨x, hx⟩ := ex_get h
    (simp -dsimp (disch := first | omega | (simp only [hx, LR] <;> omega) | fail) only [push_cast, hx, simprocAttr, -Nat.reduceSubDiff]) <;> (repeat (refine (aw_draw (by kernel_rfl)).2 ?_; simp -dsimp (disch := first | omega | (simp only [hx, LR] <;> omega) | fail) only [push_cast, hx, simprocAttr, -Nat.reduceSubDiff]))
    refine ih (i + 1) _ (by omega) h ?_
    simp -dsimp (disch := first | omega | (simp only [wr_id, LR] <;> omega) | fail) only [push_cast, wr_id, simprocAttr, -Nat.reduceSubDiff]
  · (simp -dsimp (disch := first | omega | (simp only [LR] <;> omega) | fail) only [push_cast, simprocAttr, -Nat.reduceSubDiff]) <;> (repeat (refine (aw_draw (by kernel_rfl)).2 ?_; simp -dsimp (disch := first | omega | (simp only [LR] <;> omega) | fail) only [push_cast, simprocAttr, -Nat.reduceSubDiff]))
end Go.Proofs.YtkkmgjhfjhcdmaaGreatDoor.Mx

/- Stores held against each other: the laws' own. -/
namespace Go.Proofs.YtkkmgjhfjhcdmaaGreatDoor.Mx
set_option linter.all false
open Go Go.RowKit Go.Proofs
set_option linter.unusedSimpArgs false
def E26 : Env := { T := T0, kp := look [(0, [0, 1]), (1, [2, 3]), (2, []), (3, [2, 3]), (4, [2, 3, 5]), (5, [2, 3, 5]), (6, [2, 3, 5]), (7, []), (8, [])], dp := look2 [(6, [[], [0], [], [0, 1, 2], [0, 1, 2, 3], [], [5], [], [5, 6, 7], [5, 6, 7, 8], [0, 1, 2, 3, 4, 5, 6, 7, 8, 9]])] }
attribute [local push_cast] E26
set_option maxHeartbeats 1000000 in
theorem wStore (s : Store) (hs : okStore s) : Does Tryz.prog 26 [.ag (storeC false s), .ag (storeC false s)] (.sc (.bool true), []) := by
  refine does_of (E := E26) (rs := [.tmp 4]) (lent := []) tOk rfl Tryz.func26 rfl (by decide) rfl rfl (Nat.le_of_ble_eq_true rfl) (Nat.le_of_ble_eq_true rfl) ?_
  have hl := hs.1.1
  (simp -dsimp (disch := first | omega | (simp only [LR] <;> omega) | fail) only [push_cast, simprocAttr, -Nat.reduceSubDiff]) <;> (repeat (refine (aw_draw (by kernel_rfl)).2 ?_; simp -dsimp (disch := first | omega | (simp only [LR] <;> omega) | fail) only [push_cast, simprocAttr, -Nat.reduceSubDiff]))
  refine callC (wTexts s.P hs.2.1) ?_
  (simp -dsimp (disch := first | omega | (simp only [LR] <;> omega) | fail) only [push_cast, simprocAttr, -Nat.reduceSubDiff]) <;> (repeat (refine (aw_draw (by kernel_rfl)).2 ?_; simp -dsimp (disch := first | omega | (simp only [LR] <;> omega) | fail) only [push_cast, simprocAttr, -Nat.reduceSubDiff]))
  refine loop_ind (α := Nat) (fun i => i ≤ s.I.length) (fun i => ⟨[(2, .pt 1 0 0), (3, .pt 2 0 0), (5, .sc (.int .i64 i))], [(1, .bx (storeC false s)), (2, .bx (storeC false s))], 3⟩) (fun i => s.I.length - i) 0 (Nat.zero_le _) ?_ ?_
  · simp -dsimp (disch := first | omega | (simp only [LR] <;> omega) | fail) only [push_cast, simprocAttr, -Nat.reduceSubDiff]
  intro i hi ih
  by_cases h : i < s.I.length
  · obtain ⟨x, hx⟩ := ex_get h
    (simp -dsimp (disch := first | omega | (simp only [h, hx, eqF, eq1, eqs, LR] <;> omega) | fail) only [push_cast, h, hx, eqF, eq1, eqs, simprocAttr, -Nat.reduceSubDiff]) <;> (repeat (refine (aw_draw (by kernel_rfl)).2 ?_; simp -dsimp (disch := first | omega | (simp only [h, hx, eqF, eq1, eqs, LR] <;> omega) | fail) only [push_cast, h, hx, eqF, eq1, eqs, simprocAttr, -Nat.reduceSubDiff]))
    refine ih (i + 1) _ (by omega) h ?_
    simp -dsimp (disch := first | omega | (simp only [wr_id, LR] <;> omega) | fail) only [push_cast, wr_id, simprocAttr, -Nat.reduceSubDiff]
  · (simp -dsimp (disch := first | omega | (simp only [h, LR] <;> omega) | fail) only [push_cast, h, simprocAttr, -Nat.reduceSubDiff]) <;> (repeat (refine (aw_draw (by kernel_rfl)).2 ?_; simp -dsimp (disch := first | omega | (simp only [h, LR] <;> omega) | fail) only [push_cast, h, simprocAttr, -Nat.reduceSubDiff]))
end Go.Proofs.YtkkmgjhfjhcdmaaGreatDoor.Mx

/- Things loaded from stores. -/
namespace Go.Proofs.YtkkmgjhfjhcdmaaGreatDoor.Mx
set_option linter.all false
open Go Go.RowKit Go.Proofs
set_option linter.unusedSimpArgs false
theorem list_okLst {s : Store} {n : Str} : okLst (listF s n).1 := by
  obtain ⟨h1, h2⟩ := list_ok (s := s) (n := n)
  exact ⟨by omega, fun a ha => by have := h2 a ha; show a.size ≤ 2097152; omega⟩
theorem textsAt_ok {s : Store} (hs : okStore s) {l : List Str} (hl : l.length ≤ 2097152) : okL okStr (l.map (textAt s)) :=
  ⟨by rw [List.length_map]; exact hl, fun a ha => by obtain ⟨x, _, rfl⟩ := List.mem_map.1 ha; exact textAt_sz hs x⟩
theorem all_take {α : Type} {p : α → Bool} {l : List α} {i : Nat} {x : α} (h : l[i]? = some x) (hx : p x = false) : l.all p = false := by
  rw [← Bool.not_eq_true, List.all_eq_true]
  intro q
  rw [q x (List.mem_of_getElem? h)] at hx; cases hx
theorem all_step {α : Type} {p : α → Bool} {l : List α} {i : Nat} {x : α} (h : l[i]? = some x) (hi : (l.take i).all p = true) (hx : p x = true) : (l.take (i + 1)).all p = true := by
  rw [take_step h, List.all_append, hi]; simp [hx]
def E40 : Env := { T := T0, kp := look [(0, [0, 1]), (1, [1, 2]), (2, []), (3, [1, 2]), (4, [2, 6]), (5, []), (6, [2, 6]), (7, [2, 7, 8]), (8, []), (9, [2, 7]), (10, [2, 7, 9]), (11, [2, 7, 9, 36, 37, 38]), (12, [2, 7, 9, 36, 37, 38]), (13, [2, 7, 9, 11, 36, 37, 38]), (14, [2, 7, 9, 12, 36, 37, 38]), (15, []), (16, [2, 7, 9, 12, 36, 37, 38]), (17, [2, 7, 9, 36, 37, 38]), (18, [2, 7, 9])], dp := look2 [(6, [[], [0], [], [0, 1, 2], [0, 1, 2, 3], [0, 1, 2, 3, 4], [], [6], [0, 1, 2, 3, 4, 5, 6, 7], [0, 1, 2, 3, 4, 5, 6, 7, 8], [0, 1, 2, 3, 4, 5, 6, 7, 8, 9], [0, 1, 2, 3, 4, 5, 6, 7, 8, 9], [], [0, 1, 2, 3, 4, 5, 6, 7, 8, 9, 10, 12], [0, 1, 2, 3, 4, 5, 6, 7, 8, 9, 10, 11, 12, 13]])] }
attribute [local push_cast] E40
set_option maxRecDepth 20000 in
set_option maxHeartbeats 2000000 in
theorem implLoad (s : Store) (n : Str) (hs : okStore s) : Does Tryz.prog 40 [.ag (storeC false s), .sc (.string n)] (.tu [.sc (.string (loadF s n).1), .sc (.bool (loadF s n).2)], []) := by
  refine does_of (E := E40) (rs := [.tmp 4, .tmp 5]) (lent := []) tOk rfl Tryz.func40 rfl (by decide) rfl rfl (Nat.le_of_ble_eq_true rfl) (Nat.le_of_ble_eq_true rfl) ?_
  obtain ⟨M, hM⟩ : ∃ M, M = loadF s n := ⟨_, rfl⟩
  rw [← hM]
  unfold loadF at hM
  (simp -dsimp (disch := first | omega | (simp only [LR] <;> omega) | fail) only [push_cast, simprocAttr, -Nat.reduceSubDiff]) <;> (repeat (refine (aw_draw (by kernel_rfl)).2 ?_; simp -dsimp (disch := first | omega | (simp only [LR] <;> omega) | fail) only [push_cast, simprocAttr, -Nat.reduceSubDiff]))
  refine callC (implValidStore s hs) ?_
  cases hv : validSt s with
  | false =>
    rw [if_pos hv] at hM
    subst hM
    (simp -dsimp (disch := first | omega | (simp only [LR] <;> omega) | fail) only [push_cast, simprocAttr, -Nat.reduceSubDiff]) <;> (repeat (refine (aw_draw (by kernel_rfl)).2 ?_; simp -dsimp (disch := first | omega | (simp only [LR] <;> omega) | fail) only [push_cast, simprocAttr, -Nat.reduceSubDiff]))
    rfl
  | true =>
  rw [if_neg (by rw [hv]; simp)] at hM
  unfold loadF0 at hM
  (simp -dsimp (disch := first | omega | (simp only [LR] <;> omega) | fail) only [push_cast, simprocAttr, -Nat.reduceSubDiff]) <;> (repeat (refine (aw_draw (by kernel_rfl)).2 ?_; simp -dsimp (disch := first | omega | (simp only [LR] <;> omega) | fail) only [push_cast, simprocAttr, -Nat.reduceSubDiff]))
  refine callC (find s n hs) ?_
  by_cases hat : atI s.w n s.I < 0
  · have hf : listF s n = (⟨0, []⟩, false) := by unfold listF; rw [if_pos hat]
    rw [hf, if_neg (by simp)] at hM
    subst hM
    (simp -dsimp (disch := first | omega | (simp only [hat, LR] <;> omega) | fail) only [push_cast, hat, simprocAttr, -Nat.reduceSubDiff]) <;> (repeat (refine (aw_draw (by kernel_rfl)).2 ?_; simp -dsimp (disch := first | omega | (simp only [hat, LR] <;> omega) | fail) only [push_cast, hat, simprocAttr, -Nat.reduceSubDiff]))
    rfl
  obtain ⟨i0, x0, h1, h2, _⟩ := at_get (w := s.w) (n := n) (I := s.I) (by omega)
  have hxt : x0.t.size ≤ 2097152 := hs.1.2 x0 (List.mem_of_getElem? h2)
  have hil := (List.getElem?_eq_some_iff.1 h2).1
  have hf : listF s n = readL x0.t s.w := by
    unfold listF
    rw [if_neg hat, h1, Int.toNat_natCast, h2]
  rw [h1]
  (simp -dsimp (disch := first | omega | (simp only [h2, LR] <;> omega) | fail) only [push_cast, h2, simprocAttr, -Nat.reduceSubDiff]) <;> (repeat (refine (aw_draw (by kernel_rfl)).2 ?_; simp -dsimp (disch := first | omega | (simp only [h2, LR] <;> omega) | fail) only [push_cast, h2, simprocAttr, -Nat.reduceSubDiff]))
  refine callC (implReadList x0.t s.w (by omega)) ?_
  rw [← hf]
  have hok := list_okLst (s := s) (n := n)
  generalize listF s n = R at *
  obtain ⟨l, b⟩ := R
  simp only at hM hok ⊢
  cases b with
  | false =>
    rw [if_neg (by simp)] at hM
    subst hM
    (simp -dsimp (disch := first | omega | (simp only [LR] <;> omega) | fail) only [push_cast, simprocAttr, -Nat.reduceSubDiff]) <;> (repeat (refine (aw_draw (by kernel_rfl)).2 ?_; simp -dsimp (disch := first | omega | (simp only [LR] <;> omega) | fail) only [push_cast, simprocAttr, -Nat.reduceSubDiff]))
    rfl
  | true =>
  have hl := hok.1
  have hno : ∀ (i : Nat) (x : Str), l.S[i]? = some x → atI s.w x s.I < 0 → M = (em, false) := fun i x hx hc => by
    rw [hM, if_neg]
    rintro ⟨_, q⟩
    rw [all_take (p := fun x => decide (0 ≤ atI s.w x s.I)) hx (decide_eq_false (by omega))] at q; cases q
  (simp -dsimp (disch := first | omega | (simp only [LR] <;> omega) | fail) only [push_cast, simprocAttr, -Nat.reduceSubDiff]) <;> (repeat (refine (aw_draw (by kernel_rfl)).2 ?_; simp -dsimp (disch := first | omega | (simp only [LR] <;> omega) | fail) only [push_cast, simprocAttr, -Nat.reduceSubDiff]))
  refine loop_ind (α := Nat) (fun i => i ≤ l.S.length ∧ (l.S.take i).all (fun x => decide (0 ≤ atI s.w x s.I)) = true)
    (fun i => ⟨[(2, .pt 1 0 0), (7, .pt 2 0 0), (9, .ow 4 0 ((l.S.take i).map (textAt s)).length), (36, .ow 3 0 l.S.length), (37, .sc (.int .i64 l.S.length)), (38, .sc (.int .i64 i))], [(1, .bx (storeC false s)), (2, .bx [.sc (.int .i64 l.sz), .ow 3 0 l.S.length]), (3, .ar 1 0 (l.S.map strR)), (4, .ar 1 0 (((l.S.take i).map (textAt s)).map strR))], 5⟩) (fun i => l.S.length - i) 0 ⟨Nat.zero_le _, by simp⟩ ?_ ?_
  · simp -dsimp (disch := first | omega | (simp only [List.take_zero, List.map_nil, LR] <;> omega) | fail) only [push_cast, List.take_zero, List.map_nil, simprocAttr, -Nat.reduceSubDiff]
  rintro i ⟨hi, hq⟩ ih
  have hil : ((l.S.take i).map (textAt s)).length = i := by rw [List.length_map, List.length_take]; omega
  by_cases h : i < l.S.length
  · obtain ⟨x, hx⟩ := ex_get h
    obtain ⟨D, hD⟩ : ∃ D, D = (l.S.take i).map (textAt s) := ⟨_, rfl⟩
    rw [← hD] at hil ⊢
    (simp -dsimp (disch := first | omega | (simp only [h, hx, LR] <;> omega) | fail) only [push_cast, h, hx, simprocAttr, -Nat.reduceSubDiff]) <;> (repeat (refine (aw_draw (by kernel_rfl)).2 ?_; simp -dsimp (disch := first | omega | (simp only [h, hx, LR] <;> omega) | fail) only [push_cast, h, hx, simprocAttr, -Nat.reduceSubDiff]))
    refine callC (find s x hs) ?_
    by_cases hc : atI s.w x s.I < 0
    · have hM := hno i x hx hc
      subst hM
      (simp -dsimp (disch := first | omega | (simp only [h, hx, hc, LR] <;> omega) | fail) only [push_cast, h, hx, hc, simprocAttr, -Nat.reduceSubDiff]) <;> (repeat (refine (aw_draw (by kernel_rfl)).2 ?_; simp -dsimp (disch := first | omega | (simp only [h, hx, hc, LR] <;> omega) | fail) only [push_cast, h, hx, hc, simprocAttr, -Nat.reduceSubDiff]))
      rfl
    obtain ⟨k, y, h1, h2, _⟩ := at_get (w := s.w) (n := x) (I := s.I) (by omega)
    have hst : (l.S.take (i + 1)).map (textAt s) = D ++ [y.t] := by rw [hD, take_step hx, List.map_append, List.map_cons, List.map_nil, textAt_some h1 h2]
    have hkl := (List.getElem?_eq_some_iff.1 h2).1
    have hqn := all_step hx hq (decide_eq_true (show 0 ≤ atI s.w x s.I by omega))
    rw [h1]
    (simp -dsimp (disch := first | omega | (simp only [h, hx, h2, LR] <;> omega) | fail) only [push_cast, h, hx, h2, simprocAttr, -Nat.reduceSubDiff]) <;> (repeat (refine (aw_draw (by kernel_rfl)).2 ?_; simp -dsimp (disch := first | omega | (simp only [h, hx, h2, LR] <;> omega) | fail) only [push_cast, h, hx, h2, simprocAttr, -Nat.reduceSubDiff]))
    refine ih (i + 1) _ (by omega) ⟨h, hqn⟩ ?_
    rw [hst]
    simp -dsimp (disch := first | omega | (simp only [wr_id, List.map_append, List.length_append, List.length_cons, List.length_nil, List.map_cons, List.map_nil, LR] <;> omega) | fail) only [push_cast, wr_id, List.map_append, List.length_append, List.length_cons, List.length_nil, List.map_cons, List.map_nil, simprocAttr, -Nat.reduceSubDiff]
  · have hi : l.S.take i = l.S := List.take_of_length_le (by omega)
    rw [hi] at hq hil ⊢
    rw [if_pos ⟨rfl, hq⟩] at hM
    (simp -dsimp (disch := first | omega | (simp only [h, LR] <;> omega) | fail) only [push_cast, h, simprocAttr, -Nat.reduceSubDiff]) <;> (repeat (refine (aw_draw (by kernel_rfl)).2 ?_; simp -dsimp (disch := first | omega | (simp only [h, LR] <;> omega) | fail) only [push_cast, h, simprocAttr, -Nat.reduceSubDiff]))
    refine callC (implBuild l (l.S.map (textAt s)) s.w hok (textsAt_ok hs hl)) ?_
    (simp -dsimp (disch := first | omega | (simp only [← hM, LR] <;> omega) | fail) only [push_cast, ← hM, simprocAttr, -Nat.reduceSubDiff]) <;> (repeat (refine (aw_draw (by kernel_rfl)).2 ?_; simp -dsimp (disch := first | omega | (simp only [← hM, LR] <;> omega) | fail) only [push_cast, ← hM, simprocAttr, -Nat.reduceSubDiff]))
end Go.Proofs.YtkkmgjhfjhcdmaaGreatDoor.Mx

/- What a store lacks. -/
namespace Go.Proofs.YtkkmgjhfjhcdmaaGreatDoor.Mx
set_option linter.all false
open Go Go.RowKit Go.Proofs
set_option linter.unusedSimpArgs false
def E41 : Env := { T := T0, kp := look [(0, [0, 1]), (1, [1, 2]), (2, []), (3, [1, 2]), (4, [1, 2, 5]), (5, [1]), (6, [1, 2, 5]), (7, [1, 2, 6, 7]), (8, [1]), (9, [2, 6]), (10, [2, 6, 8]), (11, [2, 6, 8, 49, 50, 51]), (12, [2, 6, 8, 49, 50, 51]), (13, [2, 6, 8, 10, 49, 50, 51]), (14, [2, 6, 8, 49, 50, 51]), (15, [6, 8]), (16, [6, 8, 11]), (17, [8, 11, 63, 64, 65]), (18, [8, 11, 63, 64, 65]), (19, [8, 11, 13, 63, 64, 65]), (20, [8, 11, 13, 63, 64, 65]), (21, [8, 11, 13, 63, 64, 65]), (22, [8, 11, 63, 64, 65]), (23, [11])], dp := look2 [(6, [[], [0], [], [0, 1, 2], [0, 1, 2, 3], [0, 1, 2, 3, 4], [], [6], [0, 1, 2, 3, 4, 5, 6, 7], [0, 1, 2, 3, 4, 5, 6, 7, 8], [0, 1, 2, 3, 4, 5, 6, 7, 8, 9], [0, 1, 2, 3, 4, 5, 6, 7, 8, 9], [], [0, 1, 2, 3, 4, 5, 6, 7, 8, 9, 10, 12], [0, 1, 2, 3, 4, 5, 6, 7, 8, 9, 10, 11, 12, 13]])] }
attribute [local push_cast] E41
set_option maxRecDepth 20000 in
set_option maxHeartbeats 1000000 in
theorem implLacks (s : Store) (n : Str) (hs : okStore s) : Does Tryz.prog 41 [.ag (storeC false s), .sc (.string n)] (.sl true 1 ((lacksF s n).map strR), []) := by
  refine does_of (E := E41) (rs := [.tmp 4]) (lent := []) tOk rfl Tryz.func41 rfl (by decide) rfl rfl (Nat.le_of_ble_eq_true rfl) (Nat.le_of_ble_eq_true rfl) ?_
  obtain ⟨M, hM⟩ : ∃ M, M = lacksF s n := ⟨_, rfl⟩
  rw [← hM]
  unfold lacksF at hM
  have hI := hs.1.1
  (simp -dsimp (disch := first | omega | (simp only [LR] <;> omega) | fail) only [push_cast, simprocAttr, -Nat.reduceSubDiff]) <;> (repeat (refine (aw_draw (by kernel_rfl)).2 ?_; simp -dsimp (disch := first | omega | (simp only [LR] <;> omega) | fail) only [push_cast, simprocAttr, -Nat.reduceSubDiff]))
  refine callC (implValidStore s hs) ?_
  cases hv : validSt s with
  | false =>
    rw [if_pos (.inl hv)] at hM
    subst hM
    (simp -dsimp (disch := first | omega | (simp only [LR] <;> omega) | fail) only [push_cast, simprocAttr, -Nat.reduceSubDiff]) <;> (repeat (refine (aw_draw (by kernel_rfl)).2 ?_; simp -dsimp (disch := first | omega | (simp only [LR] <;> omega) | fail) only [push_cast, simprocAttr, -Nat.reduceSubDiff]))
  | true =>
  by_cases hn : (n.size : Int) = s.w
  rotate_left
  · rw [if_pos (.inr hn)] at hM
    subst hM
    (simp -dsimp (disch := first | omega | (simp only [hn, LR] <;> omega) | fail) only [push_cast, hn, simprocAttr, -Nat.reduceSubDiff]) <;> (repeat (refine (aw_draw (by kernel_rfl)).2 ?_; simp -dsimp (disch := first | omega | (simp only [hn, LR] <;> omega) | fail) only [push_cast, hn, simprocAttr, -Nat.reduceSubDiff]))
  rw [if_neg (by rintro (q | q); rw [hv] at q; cases q; exact q hn)] at hM
  (simp -dsimp (disch := first | omega | (simp only [hn, LR] <;> omega) | fail) only [push_cast, hn, simprocAttr, -Nat.reduceSubDiff]) <;> (repeat (refine (aw_draw (by kernel_rfl)).2 ?_; simp -dsimp (disch := first | omega | (simp only [hn, LR] <;> omega) | fail) only [push_cast, hn, simprocAttr, -Nat.reduceSubDiff]))
  refine callC (find s n hs) ?_
  have hlo := list_ok (s := s) (n := n)
  by_cases hat : atI s.w n s.I < 0
  · have hf : listF s n = (⟨0, []⟩, false) := by unfold listF; rw [if_pos hat]
    rw [hf, if_pos rfl] at hM
    subst hM
    (simp -dsimp (disch := first | omega | (simp only [hat, LR] <;> omega) | fail) only [push_cast, hat, simprocAttr, -Nat.reduceSubDiff]) <;> (repeat (refine (aw_draw (by kernel_rfl)).2 ?_; simp -dsimp (disch := first | omega | (simp only [hat, LR] <;> omega) | fail) only [push_cast, hat, simprocAttr, -Nat.reduceSubDiff]))
  obtain ⟨i0, x0, h1, h2, _⟩ := at_get (w := s.w) (n := n) (I := s.I) (by omega)
  have hxt : x0.t.size ≤ 2097152 := hs.1.2 x0 (List.mem_of_getElem? h2)
  have hil := (List.getElem?_eq_some_iff.1 h2).1
  have hf : listF s n = readL x0.t s.w := by
    unfold listF
    rw [if_neg hat, h1, Int.toNat_natCast, h2]
  rw [h1]
  (simp -dsimp (disch := first | omega | (simp only [h2, LR] <;> omega) | fail) only [push_cast, h2, simprocAttr, -Nat.reduceSubDiff]) <;> (repeat (refine (aw_draw (by kernel_rfl)).2 ?_; simp -dsimp (disch := first | omega | (simp only [h2, LR] <;> omega) | fail) only [push_cast, h2, simprocAttr, -Nat.reduceSubDiff]))
  refine callC (implReadList x0.t s.w (by omega)) ?_
  rw [← hf]
  generalize listF s n = R at *
  obtain ⟨l, b⟩ := R
  simp only at hM hlo ⊢
  cases b with
  | false =>
    rw [if_pos rfl] at hM
    subst hM
    (simp -dsimp (disch := first | omega | (simp only [LR] <;> omega) | fail) only [push_cast, simprocAttr, -Nat.reduceSubDiff]) <;> (repeat (refine (aw_draw (by kernel_rfl)).2 ?_; simp -dsimp (disch := first | omega | (simp only [LR] <;> omega) | fail) only [push_cast, simprocAttr, -Nat.reduceSubDiff]))
  | true =>
  rw [if_neg (by simp)] at hM
  have hl := hlo.1
  (simp -dsimp (disch := first | omega | (simp only [LR] <;> omega) | fail) only [push_cast, simprocAttr, -Nat.reduceSubDiff]) <;> (repeat (refine (aw_draw (by kernel_rfl)).2 ?_; simp -dsimp (disch := first | omega | (simp only [LR] <;> omega) | fail) only [push_cast, simprocAttr, -Nat.reduceSubDiff]))
  refine loop_ind (α := Nat) (fun i => i ≤ s.I.length)
    (fun i => ⟨[(2, .pt 1 0 0), (6, .pt 2 0 0), (8, .mv 4), (49, .sl false 2 (s.I.map (itemC false))), (50, .sc (.int .i64 s.I.length)), (51, .sc (.int .i64 i))], [(1, .bx (storeC false s)), (2, .bx [.sc (.int .i64 l.sz), .ow 3 0 l.S.length]), (3, .ar 1 0 (l.S.map strR)), (4, .mp 0 (mset ((s.I.take i).map fun y => sumS y.t s.w)))], 5⟩) (fun i => s.I.length - i) 0 (Nat.zero_le _) ?_ ?_
  · simp -dsimp (disch := first | omega | (simp only [mset, List.take_zero, List.foldl_nil, List.map_nil, LR] <;> omega) | fail) only [push_cast, mset, List.take_zero, List.foldl_nil, List.map_nil, simprocAttr, -Nat.reduceSubDiff]
  intro i hi ih
  by_cases h : i < s.I.length
  · obtain ⟨y, hy⟩ := ex_get h
    have hyt : y.t.size ≤ 2097152 := hs.1.2 y (List.mem_of_getElem? hy)
    have hk := mok_kok (mset_mok ((s.I.take i).map fun y => sumS y.t s.w))
    have hst : mset ((s.I.take (i + 1)).map fun y => sumS y.t s.w) = kset (mset ((s.I.take i).map fun y => sumS y.t s.w)) (.string (sumS y.t s.w)) (.bool true) := by
      rw [take_step hy, List.map_append]; exact mset_app _ _
    generalize mset ((s.I.take i).map fun y => sumS y.t s.w) = E at *
    (simp -dsimp (disch := first | omega | (simp only [h, hy, LR] <;> omega) | fail) only [push_cast, h, hy, simprocAttr, -Nat.reduceSubDiff]) <;> (repeat (refine (aw_draw (by kernel_rfl)).2 ?_; simp -dsimp (disch := first | omega | (simp only [h, hy, LR] <;> omega) | fail) only [push_cast, h, hy, simprocAttr, -Nat.reduceSubDiff]))
    refine callC (implSum y.t s.w (by omega)) ?_
    (simp -dsimp (disch := first | omega | (simp only [h, hy, pMapSet, hk.1, kkey, LR] <;> omega) | fail) only [push_cast, h, hy, pMapSet, hk.1, kkey, simprocAttr, -Nat.reduceSubDiff]) <;> (repeat (refine (aw_draw (by kernel_rfl)).2 ?_; simp -dsimp (disch := first | omega | (simp only [h, hy, pMapSet, hk.1, kkey, LR] <;> omega) | fail) only [push_cast, h, hy, pMapSet, hk.1, kkey, simprocAttr, -Nat.reduceSubDiff]))
    refine ih (i + 1) _ (by omega) h ?_
    rw [hst]
    simp -dsimp (disch := first | omega | (simp only [wr_id, LR] <;> omega) | fail) only [push_cast, wr_id, simprocAttr, -Nat.reduceSubDiff]
  rw [show s.I.take i = s.I from List.take_of_length_le (by omega)]
  clear ih
  obtain ⟨Z, hZ⟩ : ∃ Z, Z = s.I.map fun y => sumS y.t s.w := ⟨_, rfl⟩
  rw [← hZ]
  (simp -dsimp (disch := first | omega | (simp only [h, LR] <;> omega) | fail) only [push_cast, h, simprocAttr, -Nat.reduceSubDiff]) <;> (repeat (refine (aw_draw (by kernel_rfl)).2 ?_; simp -dsimp (disch := first | omega | (simp only [h, LR] <;> omega) | fail) only [push_cast, h, simprocAttr, -Nat.reduceSubDiff]))
  refine loop_ind (α := Nat × List Str) (fun q => q.1 ≤ l.S.length ∧ q.2.length ≤ q.1 ∧ lackL s.w s.I q.2 (l.S.drop q.1) = M)
    (fun q => ⟨[(8, .mv 1), (11, .ow 2 0 q.2.length), (63, .ow 3 0 l.S.length), (64, .sc (.int .i64 l.S.length)), (65, .sc (.int .i64 q.1))], [(1, .mp 0 (mset (Z ++ q.2))), (2, .ar 1 0 (q.2.map strR)), (3, .ar 1 0 (l.S.map strR))], 4⟩) (fun q => l.S.length - q.1) (0, []) ⟨Nat.zero_le _, Nat.le_refl _, by rw [hM]; rfl⟩ ?_ ?_
  · simp -dsimp (disch := first | omega | (simp only [List.append_nil, LR] <;> omega) | fail) only [push_cast, List.append_nil, simprocAttr, -Nat.reduceSubDiff]
  rintro ⟨j, acc⟩ ⟨hj, ha, hy⟩ ih
  replace hj : j ≤ l.S.length := hj
  replace ha : acc.length ≤ j := ha
  replace hy : lackL s.w s.I acc (l.S.drop j) = M := hy
  have hk := mok_kok (mset_mok (Z ++ acc))
  have hk2 := hk.2
  simp only [plain] at hk2
  by_cases h7 : j < l.S.length
  · obtain ⟨x, hx⟩ := ex_get h7
    rw [drop_step hx, lackL] at hy
    have hat2 : atI s.w x s.I < 0 ↔ inL Z x = false := by rw [hZ]; exact at_neg
    cases e : inL (Z ++ acc) x with
    | true =>
      have hc : ¬ (atI s.w x s.I < 0 ∧ inL acc x = false) := by
        rintro ⟨q1, q2⟩
        rw [inL_app, hat2.1 q1, q2] at e; cases e
      rw [if_neg hc] at hy
      (simp -dsimp (disch := first | omega | (simp only [h7, hx, pLookup, entries, hk.1, hk2, kkey, mset_get, e, LR] <;> omega) | fail) only [push_cast, h7, hx, pLookup, entries, hk.1, hk2, kkey, mset_get, e, simprocAttr, -Nat.reduceSubDiff]) <;> (repeat (refine (aw_draw (by kernel_rfl)).2 ?_; simp -dsimp (disch := first | omega | (simp only [h7, hx, pLookup, entries, hk.1, hk2, kkey, mset_get, e, LR] <;> omega) | fail) only [push_cast, h7, hx, pLookup, entries, hk.1, hk2, kkey, mset_get, e, simprocAttr, -Nat.reduceSubDiff]))
      refine ih (j + 1, acc) _ (by show l.S.length - (j + 1) < l.S.length - j; omega) ⟨h7, by show acc.length ≤ j + 1; omega, hy⟩ ?_
      simp -dsimp (disch := first | omega | (simp only [wr_id, LR] <;> omega) | fail) only [push_cast, wr_id, simprocAttr, -Nat.reduceSubDiff]
    | false =>
      have hc : atI s.w x s.I < 0 ∧ inL acc x = false := by
        rw [inL_app, Bool.or_eq_false_iff] at e
        exact ⟨hat2.2 e.1, e.2⟩
      rw [if_pos hc] at hy
      have hst := mset_app (Z ++ acc) x
      rw [List.append_assoc] at hst
      (simp -dsimp (disch := first | omega | (simp only [h7, hx, pLookup, entries, hk.1, hk2, kkey, mset_get, e, pMapSet, LR] <;> omega) | fail) only [push_cast, h7, hx, pLookup, entries, hk.1, hk2, kkey, mset_get, e, pMapSet, simprocAttr, -Nat.reduceSubDiff]) <;> (repeat (refine (aw_draw (by kernel_rfl)).2 ?_; simp -dsimp (disch := first | omega | (simp only [h7, hx, pLookup, entries, hk.1, hk2, kkey, mset_get, e, pMapSet, LR] <;> omega) | fail) only [push_cast, h7, hx, pLookup, entries, hk.1, hk2, kkey, mset_get, e, pMapSet, simprocAttr, -Nat.reduceSubDiff]))
      refine ih (j + 1, acc ++ [x]) _ (by show l.S.length - (j + 1) < l.S.length - j; omega) ⟨h7, by simp only [List.length_append, List.length_cons, List.length_nil]; omega, hy⟩ ?_
      simp -dsimp (disch := first | omega | (simp only [wr_id, List.map_append, List.length_append, List.length_cons, List.length_nil, hst, LR] <;> omega) | fail) only [push_cast, wr_id, List.map_append, List.length_append, List.length_cons, List.length_nil, hst, simprocAttr, -Nat.reduceSubDiff]
  · rw [List.drop_eq_nil_of_le (by omega), lackL] at hy
    subst hy
    (simp -dsimp (disch := first | omega | (simp only [h7, LR] <;> omega) | fail) only [push_cast, h7, simprocAttr, -Nat.reduceSubDiff]) <;> (repeat (refine (aw_draw (by kernel_rfl)).2 ?_; simp -dsimp (disch := first | omega | (simp only [h7, LR] <;> omega) | fail) only [push_cast, h7, simprocAttr, -Nat.reduceSubDiff]))
end Go.Proofs.YtkkmgjhfjhcdmaaGreatDoor.Mx

/- The law FnSave runs. -/
namespace Go.Proofs.YtkkmgjhfjhcdmaaGreatDoor.Mx
set_option linter.all false
open Go Go.RowKit Go.Proofs
set_option linter.unusedSimpArgs false
def E5 : Env := { T := T0, kp := look [(0, [0, 1]), (1, [0, 1]), (2, []), (3, [0, 1]), (4, [1, 5, 6, 7]), (5, [1, 5, 6, 7, 8, 9]), (6, [1, 5, 6, 8, 9, 10, 11]), (7, []), (8, [1, 5, 6, 8, 9]), (9, [8]), (10, [1, 5, 6, 8]), (11, [1, 6, 8, 12]), (12, [1, 6, 8, 12, 13]), (13, [1, 6, 8, 12, 13]), (14, [1, 6, 8, 12, 13]), (15, [1, 6, 8, 12, 13, 14, 15]), (16, []), (17, [1, 6, 8, 12, 13]), (18, []), (19, [1, 6, 8, 12, 13]), (20, [1, 6, 8, 12, 13, 17, 18]), (21, [1, 6, 8, 12, 13, 17, 18, 19, 20]), (22, [1, 6, 8, 12, 13, 17, 18, 19]), (23, [1, 6, 8, 12, 13, 19, 20]), (24, [1, 6, 8, 12, 13, 19]), (25, [])] }
attribute [local push_cast] E5
set_option maxRecDepth 20000 in
set_option maxHeartbeats 4000000 in
theorem fnSave (c m : List Int) (hcl : c.length ≤ 9223372036854775807) (hc : ∀ x ∈ c, 0 ≤ x ∧ x ≤ 255) (hml : m.length ≤ 9223372036854775807) (hm : ∀ x ∈ m, 0 ≤ x ∧ x ≤ 255) : Does Tryz.prog 5 [.sl false 1 (c.map numR), .sl false 1 (m.map numR)] (.sc (.bool true), []) := by
  refine does_of (E := E5) (rs := [.tmp 4]) (lent := []) tOk rfl Tryz.func5 rfl (by decide) rfl rfl (Nat.le_of_ble_eq_true rfl) (Nat.le_of_ble_eq_true rfl) ?_
  by_cases hb1 : 1048576 < c.length
  · (simp -dsimp (disch := first | omega | (simp only [hb1, LR] <;> omega) | fail) only [push_cast, hb1, simprocAttr, -Nat.reduceSubDiff]) <;> (repeat (refine (aw_draw (by kernel_rfl)).2 ?_; simp -dsimp (disch := first | omega | (simp only [hb1, LR] <;> omega) | fail) only [push_cast, hb1, simprocAttr, -Nat.reduceSubDiff]))
  by_cases hb2 : 1048576 < m.length
  · (simp -dsimp (disch := first | omega | (simp only [hb1, hb2, LR] <;> omega) | fail) only [push_cast, hb1, hb2, simprocAttr, -Nat.reduceSubDiff]) <;> (repeat (refine (aw_draw (by kernel_rfl)).2 ?_; simp -dsimp (disch := first | omega | (simp only [hb1, hb2, LR] <;> omega) | fail) only [push_cast, hb1, hb2, simprocAttr, -Nat.reduceSubDiff]))
  (simp -dsimp (disch := first | omega | (simp only [hb1, hb2, LR] <;> omega) | fail) only [push_cast, hb1, hb2, simprocAttr, -Nat.reduceSubDiff]) <;> (repeat (refine (aw_draw (by kernel_rfl)).2 ?_; simp -dsimp (disch := first | omega | (simp only [hb1, hb2, LR] <;> omega) | fail) only [push_cast, hb1, hb2, simprocAttr, -Nat.reduceSubDiff]))
  refine some_call (drawSave c (by omega) hc) ?_
  rintro _ ⟨s, t, now, rfl, hs, ht⟩
  (simp -dsimp (disch := first | omega | (simp only [LR] <;> omega) | fail) only [push_cast, simprocAttr, -Nat.reduceSubDiff]) <;> (repeat (refine (aw_draw (by kernel_rfl)).2 ?_; simp -dsimp (disch := first | omega | (simp only [LR] <;> omega) | fail) only [push_cast, simprocAttr, -Nat.reduceSubDiff]))
  refine callC (implSave s t now hs (by omega)) ?_
  (simp -dsimp (disch := first | omega | (simp only [LR] <;> omega) | fail) only [push_cast, simprocAttr, -Nat.reduceSubDiff]) <;> (repeat (refine (aw_draw (by kernel_rfl)).2 ?_; simp -dsimp (disch := first | omega | (simp only [LR] <;> omega) | fail) only [push_cast, simprocAttr, -Nat.reduceSubDiff]))
  refine callC (specSave s t now hs (by omega)) ?_
  have ho := save_ok (t := t) (now := now) hs
  have hem := save_em (s := s) (t := t) (now := now)
  have hsv := save_sv (s := s) (t := t) (now := now)
  have hsw : (saveF s t now).2 = 0 → (saveF s t now).1.w = s.w := fun e => by
    obtain ⟨h1, h2, h3, _⟩ := save_split e
    rw [h3, (puts_wP h2).1, (pin_wP h1).1]
  generalize saveF s t now = R at *
  obtain ⟨x0, k⟩ := R
  simp only at ho hem hsv hsw ⊢
  (simp -dsimp (disch := first | omega | (simp only [LR] <;> omega) | fail) only [push_cast, simprocAttr, -Nat.reduceSubDiff]) <;> (repeat (refine (aw_draw (by kernel_rfl)).2 ?_; simp -dsimp (disch := first | omega | (simp only [LR] <;> omega) | fail) only [push_cast, simprocAttr, -Nat.reduceSubDiff]))
  refine callC (wStore x0 ho) ?_
  by_cases hk : k = 0
  rotate_left
  · have := hem hk
    subst this
    (simp -dsimp (disch := first | omega | (simp only [hk, emS, LR] <;> omega) | fail) only [push_cast, hk, emS, simprocAttr, -Nat.reduceSubDiff]) <;> (repeat (refine (aw_draw (by kernel_rfl)).2 ?_; simp -dsimp (disch := first | omega | (simp only [hk, emS, LR] <;> omega) | fail) only [push_cast, hk, emS, simprocAttr, -Nat.reduceSubDiff]))
  subst hk
  (simp -dsimp (disch := first | omega | (simp only [LR] <;> omega) | fail) only [push_cast, simprocAttr, -Nat.reduceSubDiff]) <;> (repeat (refine (aw_draw (by kernel_rfl)).2 ?_; simp -dsimp (disch := first | omega | (simp only [LR] <;> omega) | fail) only [push_cast, simprocAttr, -Nat.reduceSubDiff]))
  refine callC (specName t s.w (by omega)) ?_
  rw [← hsw rfl]
  have sv0 := hsv rfl
  clear hsv hem hsw
  generalize hW : x0.w = W at *
  generalize hN : nameS t W = N at *
  (simp -dsimp (disch := first | omega | (simp only [LR] <;> omega) | fail) only [push_cast, simprocAttr, -Nat.reduceSubDiff]) <;> (repeat (refine (aw_draw (by kernel_rfl)).2 ?_; simp -dsimp (disch := first | omega | (simp only [LR] <;> omega) | fail) only [push_cast, simprocAttr, -Nat.reduceSubDiff]))
  refine loop_ind (α := Nat × Store) (fun q => q.1 ≤ 6 ∧ okStore q.2 ∧ q.2.w = W ∧ SV q.2 t (piecesL t))
    (fun q => ⟨[(1, .sl false 1 (m.map numR)), (6, .sc (.string t)), (8, .pt 1 0 0), (12, .sc (.string N)), (13, .sc (.int .i64 q.1))],
      [(1, .bx [.sc (.int .i64 q.2.w), .sc (.int .i64 q.2.r), .ow 2 0 q.2.I.length, .ow 3 0 q.2.P.length]), (2, .ar 2 0 (q.2.I.map (itemC true))), (3, .ar 1 0 (q.2.P.map strR))], 4⟩) (fun q => 6 - q.1) (0, x0) ⟨Nat.zero_le _, ho, hW, sv0⟩ ?_ ?_
  · simp -dsimp (disch := first | omega | (simp only [hW, LR] <;> omega) | fail) only [push_cast, hW, simprocAttr, -Nat.reduceSubDiff]
  rintro ⟨i, x⟩ ⟨g1, g2, g3, g4⟩ ih
  replace g1 : i ≤ 6 := g1
  replace g2 : okStore x := g2
  replace g3 : x.w = W := g3
  replace g4 : SV x t (piecesL t) := g4
  by_cases h : i < 6
  rotate_left
  · (simp -dsimp (disch := first | omega | (simp only [h, LR] <;> omega) | fail) only [push_cast, h, simprocAttr, -Nat.reduceSubDiff]) <;> (repeat (refine (aw_draw (by kernel_rfl)).2 ?_; simp -dsimp (disch := first | omega | (simp only [h, LR] <;> omega) | fail) only [push_cast, h, simprocAttr, -Nat.reduceSubDiff]))
  have e1 := sv_load g4
  have e2 := sv_lacks g4
  rw [g3, hN] at e1 e2
  have d1 := implLoad x N g2
  have d2 := implLacks x N g2
  rw [e1] at d1
  rw [e2] at d2
  (simp -dsimp (disch := first | omega | (simp only [h, LR] <;> omega) | fail) only [push_cast, h, simprocAttr, -Nat.reduceSubDiff]) <;> (repeat (refine (aw_draw (by kernel_rfl)).2 ?_; simp -dsimp (disch := first | omega | (simp only [h, LR] <;> omega) | fail) only [push_cast, h, simprocAttr, -Nat.reduceSubDiff]))
  refine callC d1 ?_
  (simp -dsimp (disch := first | omega | (simp only [h, LR] <;> omega) | fail) only [push_cast, h, simprocAttr, -Nat.reduceSubDiff]) <;> (repeat (refine (aw_draw (by kernel_rfl)).2 ?_; simp -dsimp (disch := first | omega | (simp only [h, LR] <;> omega) | fail) only [push_cast, h, simprocAttr, -Nat.reduceSubDiff]))
  refine callC d2 ?_
  by_cases hi : m.length ≤ i
  · (simp -dsimp (disch := first | omega | (simp only [h, hi, LR] <;> omega) | fail) only [push_cast, h, hi, simprocAttr, -Nat.reduceSubDiff]) <;> (repeat (refine (aw_draw (by kernel_rfl)).2 ?_; simp -dsimp (disch := first | omega | (simp only [h, hi, LR] <;> omega) | fail) only [push_cast, h, hi, simprocAttr, -Nat.reduceSubDiff]))
  obtain ⟨v, hv⟩ := ex_get (show i < m.length by omega)
  have hvb := hm v (List.mem_of_getElem? hv)
  have hne : (m.map numR).isEmpty = false := by cases m <;> simp at hi ⊢
  have e3 : ((m.length : Int) - (i : Int)).toNat = m.length - i := by omega
  have hnv : numR v = [.sc (.int .u8 v)] := rfl
  (simp -dsimp (disch := first | omega | (simp only [h, hi, hne, e3, seg_dr, LR] <;> omega) | fail) only [push_cast, h, hi, hne, e3, seg_dr, simprocAttr, -Nat.reduceSubDiff]) <;> (repeat (refine (aw_draw (by kernel_rfl)).2 ?_; simp -dsimp (disch := first | omega | (simp only [h, hi, hne, e3, seg_dr, LR] <;> omega) | fail) only [push_cast, h, hi, hne, e3, seg_dr, simprocAttr, -Nat.reduceSubDiff]))
  refine some_call (drawSave (m.drop i) (by rw [List.length_drop]; omega) (fun y hy => hm y (List.mem_of_mem_drop hy))) ?_
  rintro _ ⟨s2, t2, n2, rfl, hs2, ht2⟩
  (simp -dsimp (disch := first | omega | (simp only [LR] <;> omega) | fail) only [push_cast, simprocAttr, -Nat.reduceSubDiff]) <;> (repeat (refine (aw_draw (by kernel_rfl)).2 ?_; simp -dsimp (disch := first | omega | (simp only [LR] <;> omega) | fail) only [push_cast, simprocAttr, -Nat.reduceSubDiff]))
  refine callC (implPut x t2 n2 g2 (by omega)) ?_
  have po := put_ok (now := n2) (t := t2) g2 (by omega)
  have pv := fun e : (putF x t2 n2).2 = 0 => sv_put g4 e
  have pw := fun e : (putF x t2 n2).2 = 0 => (put_wP e).1
  have dS := implSave x t2 n2 g2 (by omega)
  have qo := save_ok (now := n2) (t := t2) g2
  have qv := fun e : (saveF x t2 n2).2 = 0 => sv_save g4 e
  have qw : (saveF x t2 n2).2 = 0 → (saveF x t2 n2).1.w = x.w := fun e => by
    obtain ⟨h1, h2, h3, _⟩ := save_split e
    rw [h3, (puts_wP h2).1, (pin_wP h1).1]
  generalize putF x t2 n2 = A at *
  generalize saveF x t2 n2 = B at *
  obtain ⟨a, ka⟩ := A
  obtain ⟨b, kb⟩ := B
  simp only at po pv pw dS qo qv qw
  by_cases hev : v.tmod 2 = 0
  · (simp -dsimp (disch := first | omega | (simp only [hv, hnv, hev, wr_id, LR] <;> omega) | fail) only [push_cast, hv, hnv, hev, wr_id, simprocAttr, -Nat.reduceSubDiff]) <;> (repeat (refine (aw_draw (by kernel_rfl)).2 ?_; simp -dsimp (disch := first | omega | (simp only [hv, hnv, hev, wr_id, LR] <;> omega) | fail) only [push_cast, hv, hnv, hev, wr_id, simprocAttr, -Nat.reduceSubDiff]))
    refine callC dS ?_
    by_cases hk : kb = 0
    · (simp -dsimp (disch := first | omega | (simp only [hk, LR] <;> omega) | fail) only [push_cast, hk, simprocAttr, -Nat.reduceSubDiff]) <;> (repeat (refine (aw_draw (by kernel_rfl)).2 ?_; simp -dsimp (disch := first | omega | (simp only [hk, LR] <;> omega) | fail) only [push_cast, hk, simprocAttr, -Nat.reduceSubDiff]))
      refine ih (i + 1, b) _ (by show 6 - (i + 1) < 6 - i; omega) ⟨h, qo, by show b.w = W; rw [qw hk, g3], qv hk⟩ ?_
      simp -dsimp (disch := first | omega | (simp only [wr_id, LR] <;> omega) | fail) only [push_cast, wr_id, simprocAttr, -Nat.reduceSubDiff]
    · (simp -dsimp (disch := first | omega | (simp only [hk, LR] <;> omega) | fail) only [push_cast, hk, simprocAttr, -Nat.reduceSubDiff]) <;> (repeat (refine (aw_draw (by kernel_rfl)).2 ?_; simp -dsimp (disch := first | omega | (simp only [hk, LR] <;> omega) | fail) only [push_cast, hk, simprocAttr, -Nat.reduceSubDiff]))
      refine ih (i + 1, x) _ (by show 6 - (i + 1) < 6 - i; omega) ⟨h, g2, g3, g4⟩ ?_
      simp -dsimp (disch := first | omega | (simp only [wr_id, LR] <;> omega) | fail) only [push_cast, wr_id, simprocAttr, -Nat.reduceSubDiff]
  · by_cases hk : ka = 0
    · (simp -dsimp (disch := first | omega | (simp only [hv, hnv, hev, hk, wr_id, LR] <;> omega) | fail) only [push_cast, hv, hnv, hev, hk, wr_id, simprocAttr, -Nat.reduceSubDiff]) <;> (repeat (refine (aw_draw (by kernel_rfl)).2 ?_; simp -dsimp (disch := first | omega | (simp only [hv, hnv, hev, hk, wr_id, LR] <;> omega) | fail) only [push_cast, hv, hnv, hev, hk, wr_id, simprocAttr, -Nat.reduceSubDiff]))
      refine ih (i + 1, a) _ (by show 6 - (i + 1) < 6 - i; omega) ⟨h, po, by show a.w = W; rw [pw hk, g3], pv hk⟩ ?_
      simp -dsimp (disch := first | omega | (simp only [wr_id, LR] <;> omega) | fail) only [push_cast, wr_id, simprocAttr, -Nat.reduceSubDiff]
    · (simp -dsimp (disch := first | omega | (simp only [hv, hnv, hev, hk, wr_id, LR] <;> omega) | fail) only [push_cast, hv, hnv, hev, hk, wr_id, simprocAttr, -Nat.reduceSubDiff]) <;> (repeat (refine (aw_draw (by kernel_rfl)).2 ?_; simp -dsimp (disch := first | omega | (simp only [hv, hnv, hev, hk, wr_id, LR] <;> omega) | fail) only [push_cast, hv, hnv, hev, hk, wr_id, simprocAttr, -Nat.reduceSubDiff]))
      refine ih (i + 1, x) _ (by show 6 - (i + 1) < 6 - i; omega) ⟨h, g2, g3, g4⟩ ?_
      simp -dsimp (disch := first | omega | (simp only [wr_id, LR] <;> omega) | fail) only [push_cast, wr_id, simprocAttr, -Nat.reduceSubDiff]
end Go.Proofs.YtkkmgjhfjhcdmaaGreatDoor.Mx

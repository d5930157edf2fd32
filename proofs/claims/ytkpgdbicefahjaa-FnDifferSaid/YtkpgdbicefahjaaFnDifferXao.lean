/- A machine over values for Go functions, proved sound, and functions run on it: texts F25, LDiffer. -/
import Derived.Test.YtkpgdbicefahjaaFnDifferXag
import Derived.Test.YtkpgdbicefahjaaFnDifferXah
import Derived.Test.YtkpgdbicefahjaaFnDifferXaj
import Derived.Test.YtkpgdbicefahjaaFnDifferXan
/- Are two lists with one sum held against each other? -/
namespace Go.Proofs.Ytkpgdbicefahjaa.Mx
set_option linter.all false
open Go Go.RowKit Go.Proofs
set_option linter.unusedSimpArgs false
open Classical in
noncomputable def mixB (a b : List Str) (w : Int) : Bool := decide (mixed a b w)
open Classical in
theorem mixB_true {a b : List Str} {w : Int} (h : mixed a b w) : mixB a b w = true := decide_eq_true h
open Classical in
theorem mixB_false {a b : List Str} {w : Int} (h : ¬ mixed a b w) : mixB a b w = false := decide_eq_false h
open Classical in
theorem mixB_not {a b : List Str} {w : Int} (h : mixB a b w = false) : ¬ mixed a b w := of_decide_eq_false h
def E8 : Env := { T := T0, kp := look [(0, [0, 1, 2]), (1, [0, 1, 2]), (2, [0, 1, 2, 7]), (3, [0, 1, 2, 7, 8]), (4, [0, 1, 2, 7, 8, 9]), (5, [0, 1, 2, 7, 8, 9]), (6, [0, 1, 2, 7, 8, 9]), (7, [0, 1, 2, 7, 8, 9, 10]), (8, [0, 1, 2, 7, 8, 9, 10, 11]), (9, [0, 1, 2, 7, 8, 9]), (10, [0, 1, 2, 7, 8, 9, 10]), (11, [0, 1, 2, 7, 8, 9, 10, 11]), (12, [0, 1, 2, 7, 8, 9, 10, 11, 12]), (13, [0, 1, 2, 7, 8, 9, 10, 11, 12, 13]), (14, [0, 1, 2, 7, 8, 9, 10, 11, 12]), (15, [0, 1, 2, 7, 8, 9, 10, 11, 12, 14]), (16, [0, 1, 2, 7, 8, 9, 10, 11, 12, 14]), (17, [0, 1, 2, 7, 8, 9, 10, 11, 12, 14]), (18, [0, 1, 2, 7, 8, 9, 10, 11, 12, 14, 15]), (19, []), (20, [0, 1, 2, 7, 8, 9, 10, 12]), (21, [0, 1, 2, 7, 8, 9, 16]), (22, [0, 1, 2, 7, 8, 9, 16, 19]), (23, [0, 1, 2, 7, 8, 9, 16, 19]), (24, [0, 1, 2, 7, 8, 9, 16, 19]), (25, [0, 1, 2, 7, 8, 9, 16, 19]), (26, [])], dp := look2 [(17, [[], [], [0, 1], [0, 1, 2], [], [4], [0, 1, 2, 3, 4, 5], [0, 1, 2, 3, 4, 5, 6], [0, 1, 2, 3, 4, 5, 6, 7], [0, 1, 2, 3, 4, 5, 6, 7, 8], [0, 1, 2, 3, 4, 5, 6, 7, 8, 9], [0, 1, 2, 3, 4, 5, 6, 7, 8, 9, 10], [0, 1, 2, 3, 4, 5, 6, 7, 8, 9, 10, 11], [0, 1, 2, 3, 4, 5, 6, 7, 8, 9, 10, 11], [0, 1, 2, 3, 4, 5, 6, 7, 8, 9, 10, 11, 12, 13], [0, 1, 2, 3, 4, 5, 6, 7, 8, 9, 10, 11, 12, 13, 14], [0, 1, 2, 3, 4, 5, 6, 7, 8, 9, 10, 11], [0, 1, 2, 3, 4, 5, 6, 7, 8, 9, 10, 11, 16], [0, 1, 2, 3, 4, 5, 6, 7, 8, 9, 10, 11, 12, 13, 14, 15, 16, 17], [0, 1, 2, 3, 4, 5, 6, 7, 8, 9, 10, 11, 12, 13, 14, 15, 16, 17, 18], [0, 1, 2, 3, 4, 5, 6, 7, 8, 9, 10, 11, 12, 13, 14, 15, 16, 17, 18, 19], [0, 1, 2, 3, 4, 5, 6, 7, 8, 9, 10, 11, 12, 13, 14, 15, 16, 17, 18, 19, 20]])], fz := look [(21, [16])] }
attribute [local push_cast] E8
set_option maxRecDepth 20000 in
set_option maxHeartbeats 4000000 in
theorem wMixed (a b : List Str) (w : Int) (ha : setB a w = true) (hb : setB b w = true) : Does Try.prog 8 [.sl false 1 (a.map strR), .sl false 1 (b.map strR), .sc (.int .i64 w)] (.sc (.bool (mixB a b w)), []) := by
  refine does_of (E := E8) (rs := [.tmp 6]) (lent := []) tOk rfl Try.func8 rfl (by decide) rfl rfl (Nat.le_of_ble_eq_true rfl) (Nat.le_of_ble_eq_true rfl) ?_
  obtain ⟨M, hM⟩ : ∃ M, M = mixB a b w := ⟨_, rfl⟩
  rw [← hM]
  have hal5 := (setB_up ha).2.1
  have hbl5 := (setB_up hb).2.1
  have hal : a.length ≤ 2097152 := by omega
  have hbl : b.length ≤ 2097152 := by omega
  (simp -dsimp (disch := first | omega | (simp only [List.length_cons, List.length_nil, List.length_map, List.length_append, List.length_take, List.length_drop, List.length_replicate, List.length_set, mkG_len] <;> omega) | fail) only [push_cast, if_pos, decide_eq_true, decide_eq_false, Nat.reduceAdd, Nat.reduceSub, Nat.reduceMul, Nat.reduceBEq, Nat.reduceEqDiff, Nat.reduceLT, Nat.reduceLeDiff, Int.reduceToNat, Int.reduceLE, Int.reduceLT, Int.reduceAdd, Int.reduceSub, Int.reduceMul, Int.reduceEq, Int.reduceNeg, ↓reduceIte, reduceCtorEq]) <;> (repeat (refine (aw_draw (by kernel_rfl)).2 ?_; simp -dsimp (disch := first | omega | (simp only [List.length_cons, List.length_nil, List.length_map, List.length_append, List.length_take, List.length_drop, List.length_replicate, List.length_set, mkG_len] <;> omega) | fail) only [push_cast, if_pos, decide_eq_true, decide_eq_false, Nat.reduceAdd, Nat.reduceSub, Nat.reduceMul, Nat.reduceBEq, Nat.reduceEqDiff, Nat.reduceLT, Nat.reduceLeDiff, Int.reduceToNat, Int.reduceLE, Int.reduceLT, Int.reduceAdd, Int.reduceSub, Int.reduceMul, Int.reduceEq, Int.reduceNeg, ↓reduceIte, reduceCtorEq]))
  refine callC (does_note (tell_S a em em w) (specTell a em em w hal)) ?_
  (simp -dsimp (disch := first | omega | (simp only [List.length_cons, List.length_nil, List.length_map, List.length_append, List.length_take, List.length_drop, List.length_replicate, List.length_set, mkG_len] <;> omega) | fail) only [push_cast, if_pos, decide_eq_true, decide_eq_false, Nat.reduceAdd, Nat.reduceSub, Nat.reduceMul, Nat.reduceBEq, Nat.reduceEqDiff, Nat.reduceLT, Nat.reduceLeDiff, Int.reduceToNat, Int.reduceLE, Int.reduceLT, Int.reduceAdd, Int.reduceSub, Int.reduceMul, Int.reduceEq, Int.reduceNeg, ↓reduceIte, reduceCtorEq]) <;> (repeat (refine (aw_draw (by kernel_rfl)).2 ?_; simp -dsimp (disch := first | omega | (simp only [List.length_cons, List.length_nil, List.length_map, List.length_append, List.length_take, List.length_drop, List.length_replicate, List.length_set, mkG_len] <;> omega) | fail) only [push_cast, if_pos, decide_eq_true, decide_eq_false, Nat.reduceAdd, Nat.reduceSub, Nat.reduceMul, Nat.reduceBEq, Nat.reduceEqDiff, Nat.reduceLT, Nat.reduceLeDiff, Int.reduceToNat, Int.reduceLE, Int.reduceLT, Int.reduceAdd, Int.reduceSub, Int.reduceMul, Int.reduceEq, Int.reduceNeg, ↓reduceIte, reduceCtorEq]))
  refine loop_ind (α := Nat) (fun i => (∃ A B, TkI a b w (talkR a b w) (qs a b w i) i A B) ∧ ∀ j t, j < i → (qs a b w j)[j]? = some t → ¬ mixT a b w t)
    (fun i => ⟨[(0, .sl false 1 (a.map strR)), (1, .sl false 1 (b.map strR)), (2, .sc (.int .i64 w)), (7, .ow 1 0 (qs a b w i).length), (8, .ow 2 0 (qs a b w i).length), (9, .sc (.int .i64 i))],
      [(1, .ar 6 0 ((qs a b w i).map tN)), (2, .ar 1 0 ((qs a b w i).map tB))], 3⟩)
    (fun i => costs a b ((qs a b w i).drop i)) 0 ⟨⟨[], [], tk_init ha hb⟩, fun j t hj => by omega⟩ ?_ ?_
  · simp -dsimp (disch := first | omega | (simp only [qs, List.map_cons, List.map_nil, noteC, List.length_cons, List.length_nil, List.length_map, List.length_append, List.length_take, List.length_drop, List.length_replicate, List.length_set, mkG_len] <;> omega) | fail) only [push_cast, if_pos, decide_eq_true, decide_eq_false, qs, List.map_cons, List.map_nil, noteC, Nat.reduceAdd, Nat.reduceSub, Nat.reduceMul, Nat.reduceBEq, Nat.reduceEqDiff, Nat.reduceLT, Nat.reduceLeDiff, Int.reduceToNat, Int.reduceLE, Int.reduceLT, Int.reduceAdd, Int.reduceSub, Int.reduceMul, Int.reduceEq, Int.reduceNeg, ↓reduceIte, reduceCtorEq]
  rintro i ⟨⟨A, B, hI⟩, hno⟩ ih
  have hq : (qs a b w i).length ≤ 3998 := hI.len
  have hle : i ≤ (qs a b w i).length := hI.le
  by_cases h : i < (qs a b w i).length
  · obtain ⟨t, hx⟩ := ex_get h
    have hs' := hI.s t (List.mem_of_getElem? hx)
    obtain ⟨hk1, hk2, -, -⟩ := ask_len (w := w) hal5 hbl5 t hs'
    obtain ⟨hst, hlt⟩ := hI.step ha hb hx
    have hqs := qs_step hx
    rw [← hqs] at hst hlt
    have hxm : ((qs a b w i).map tN)[i]? = some (tN t) := by rw [List.getElem?_map, hx]; rfl
    have hxb : ((qs a b w i).map tB)[i]? = some (tB t) := by rw [List.getElem?_map, hx]; rfl
    obtain ⟨⟨fr, to, n, mix, hs, Ss⟩, s⟩ := t
    replace hs' : Ss.length ≤ 500 := hs'
    cases s with
    | true =>
      have tl := specTell b fr to w hbl
      rw [has_tell hb] at tl
      cases hs with
      | true =>
      (simp -dsimp (disch := first | omega | (simp only [hxm, hxb, List.length_cons, List.length_nil, List.length_map, List.length_append, List.length_take, List.length_drop, List.length_replicate, List.length_set, mkG_len] <;> omega) | fail) only [push_cast, if_pos, decide_eq_true, decide_eq_false, hxm, hxb, Nat.reduceAdd, Nat.reduceSub, Nat.reduceMul, Nat.reduceBEq, Nat.reduceEqDiff, Nat.reduceLT, Nat.reduceLeDiff, Int.reduceToNat, Int.reduceLE, Int.reduceLT, Int.reduceAdd, Int.reduceSub, Int.reduceMul, Int.reduceEq, Int.reduceNeg, ↓reduceIte, reduceCtorEq]) <;> (repeat (refine (aw_draw (by kernel_rfl)).2 ?_; simp -dsimp (disch := first | omega | (simp only [hxm, hxb, List.length_cons, List.length_nil, List.length_map, List.length_append, List.length_take, List.length_drop, List.length_replicate, List.length_set, mkG_len] <;> omega) | fail) only [push_cast, if_pos, decide_eq_true, decide_eq_false, hxm, hxb, Nat.reduceAdd, Nat.reduceSub, Nat.reduceMul, Nat.reduceBEq, Nat.reduceEqDiff, Nat.reduceLT, Nat.reduceLeDiff, Int.reduceToNat, Int.reduceLE, Int.reduceLT, Int.reduceAdd, Int.reduceSub, Int.reduceMul, Int.reduceEq, Int.reduceNeg, ↓reduceIte, reduceCtorEq]))
      refine callC tl ?_
      (simp -dsimp (disch := first | omega | (simp only [List.length_cons, List.length_nil, List.length_map, List.length_append, List.length_take, List.length_drop, List.length_replicate, List.length_set, mkG_len] <;> omega) | fail) only [push_cast, if_pos, decide_eq_true, decide_eq_false, Nat.reduceAdd, Nat.reduceSub, Nat.reduceMul, Nat.reduceBEq, Nat.reduceEqDiff, Nat.reduceLT, Nat.reduceLeDiff, Int.reduceToNat, Int.reduceLE, Int.reduceLT, Int.reduceAdd, Int.reduceSub, Int.reduceMul, Int.reduceEq, Int.reduceNeg, ↓reduceIte, reduceCtorEq]) <;> (repeat (refine (aw_draw (by kernel_rfl)).2 ?_; simp -dsimp (disch := first | omega | (simp only [List.length_cons, List.length_nil, List.length_map, List.length_append, List.length_take, List.length_drop, List.length_replicate, List.length_set, mkG_len] <;> omega) | fail) only [push_cast, if_pos, decide_eq_true, decide_eq_false, Nat.reduceAdd, Nat.reduceSub, Nat.reduceMul, Nat.reduceBEq, Nat.reduceEqDiff, Nat.reduceLT, Nat.reduceLeDiff, Int.reduceToNat, Int.reduceLE, Int.reduceLT, Int.reduceAdd, Int.reduceSub, Int.reduceMul, Int.reduceEq, Int.reduceNeg, ↓reduceIte, reduceCtorEq]))
      have hnm0 : ¬ mixT a b w ((⟨fr, to, n, mix, true, Ss⟩ : Note), true) := fun q => by cases q.1
      have hask : askN a b w ((⟨fr, to, n, mix, true, Ss⟩ : Note), true) = hearN b (⟨fr, to, n, mix, true, Ss⟩ : Note) w := rfl
      have hm : moreN a b w ((⟨fr, to, n, mix, true, Ss⟩ : Note), true) = (hearN b (⟨fr, to, n, mix, true, Ss⟩ : Note) w).1.map fun n => (n, false) := rfl
      rw [hask] at hk1 hk2
      refine callC (specHear b (⟨fr, to, n, mix, true, Ss⟩ : Note) w hbl (by simp only; omega)) ?_
      generalize hearN b (⟨fr, to, n, mix, true, Ss⟩ : Note) w = R at *
      obtain ⟨m, x, y⟩ := R
      simp only at hk1 hk2 hm
      (simp -dsimp (disch := first | omega | (simp only [List.length_cons, List.length_nil, List.length_map, List.length_append, List.length_take, List.length_drop, List.length_replicate, List.length_set, mkG_len] <;> omega) | fail) only [push_cast, if_pos, decide_eq_true, decide_eq_false, Nat.reduceAdd, Nat.reduceSub, Nat.reduceMul, Nat.reduceBEq, Nat.reduceEqDiff, Nat.reduceLT, Nat.reduceLeDiff, Int.reduceToNat, Int.reduceLE, Int.reduceLT, Int.reduceAdd, Int.reduceSub, Int.reduceMul, Int.reduceEq, Int.reduceNeg, ↓reduceIte, reduceCtorEq]) <;> (repeat (refine (aw_draw (by kernel_rfl)).2 ?_; simp -dsimp (disch := first | omega | (simp only [List.length_cons, List.length_nil, List.length_map, List.length_append, List.length_take, List.length_drop, List.length_replicate, List.length_set, mkG_len] <;> omega) | fail) only [push_cast, if_pos, decide_eq_true, decide_eq_false, Nat.reduceAdd, Nat.reduceSub, Nat.reduceMul, Nat.reduceBEq, Nat.reduceEqDiff, Nat.reduceLT, Nat.reduceLeDiff, Int.reduceToNat, Int.reduceLE, Int.reduceLT, Int.reduceAdd, Int.reduceSub, Int.reduceMul, Int.reduceEq, Int.reduceNeg, ↓reduceIte, reduceCtorEq]))
      refine loop_ind (α := Nat × List Tn) (fun p => p.1 ≤ m.length ∧ p.2 = qs a b w i ++ (m.take p.1).map fun n => (n, false))
        (fun p => ⟨[(0, .sl false 1 (a.map strR)), (1, .sl false 1 (b.map strR)), (2, .sc (.int .i64 w)), (7, .ow 1 0 p.2.length), (8, .ow 2 0 p.2.length), (9, .sc (.int .i64 i)), (16, .ow 3 0 m.length), (19, .sc (.int .i64 p.1))],
          [(1, .ar 6 0 (p.2.map tN)), (2, .ar 1 0 (p.2.map tB)), (3, .fz 6 (m.map (noteC true)))], 4⟩)
        (fun p => m.length - p.1) (0, qs a b w i) ⟨Nat.zero_le _, by simp⟩ ?_ ?_
      · simp -dsimp (disch := first | omega | (simp only [List.length_cons, List.length_nil, List.length_map, List.length_append, List.length_take, List.length_drop, List.length_replicate, List.length_set, mkG_len] <;> omega) | fail) only [push_cast, if_pos, decide_eq_true, decide_eq_false, Nat.reduceAdd, Nat.reduceSub, Nat.reduceMul, Nat.reduceBEq, Nat.reduceEqDiff, Nat.reduceLT, Nat.reduceLeDiff, Int.reduceToNat, Int.reduceLE, Int.reduceLT, Int.reduceAdd, Int.reduceSub, Int.reduceMul, Int.reduceEq, Int.reduceNeg, ↓reduceIte, reduceCtorEq]
      rintro ⟨k, Q⟩ ⟨hk, hQ⟩ ih2
      replace hQ : Q = qs a b w i ++ (m.take k).map fun n => (n, false) := hQ
      replace hk : k ≤ m.length := hk
      have hQl : Q.length = (qs a b w i).length + k := by rw [hQ, List.length_append, List.length_map, List.length_take]; omega
      have hxR : (Q.map tB)[i]? = some (tB ((⟨fr, to, n, mix, true, Ss⟩ : Note), true)) := by
        rw [List.getElem?_map, hQ, List.getElem?_append_left h, hx]; rfl
      by_cases hkm : k < m.length
      · obtain ⟨n2, hn2⟩ := ex_get hkm
        have hnm : (m.map (noteC true))[k]? = some (noteC true n2) := by rw [List.getElem?_map, hn2]; rfl
        (simp -dsimp (disch := first | omega | (simp only [hnm, hxR, List.length_cons, List.length_nil, List.length_map, List.length_append, List.length_take, List.length_drop, List.length_replicate, List.length_set, mkG_len] <;> omega) | fail) only [push_cast, if_pos, decide_eq_true, decide_eq_false, hnm, hxR, Nat.reduceAdd, Nat.reduceSub, Nat.reduceMul, Nat.reduceBEq, Nat.reduceEqDiff, Nat.reduceLT, Nat.reduceLeDiff, Int.reduceToNat, Int.reduceLE, Int.reduceLT, Int.reduceAdd, Int.reduceSub, Int.reduceMul, Int.reduceEq, Int.reduceNeg, ↓reduceIte, reduceCtorEq]) <;> (repeat (refine (aw_draw (by kernel_rfl)).2 ?_; simp -dsimp (disch := first | omega | (simp only [hnm, hxR, List.length_cons, List.length_nil, List.length_map, List.length_append, List.length_take, List.length_drop, List.length_replicate, List.length_set, mkG_len] <;> omega) | fail) only [push_cast, if_pos, decide_eq_true, decide_eq_false, hnm, hxR, Nat.reduceAdd, Nat.reduceSub, Nat.reduceMul, Nat.reduceBEq, Nat.reduceEqDiff, Nat.reduceLT, Nat.reduceLeDiff, Int.reduceToNat, Int.reduceLE, Int.reduceLT, Int.reduceAdd, Int.reduceSub, Int.reduceMul, Int.reduceEq, Int.reduceNeg, ↓reduceIte, reduceCtorEq]))
        refine ih2 (k + 1, Q ++ [(n2, false)]) _ (by show m.length - (k + 1) < m.length - k; omega) ⟨hkm, by rw [hQ, take_step hn2, List.map_append, List.append_assoc]; rfl⟩ ?_
        simp -dsimp (disch := first | omega | (simp only [wr_id, List.map_append, List.length_append, List.length_cons, List.length_nil, Nat.zero_add, List.length_cons, List.length_nil, List.length_map, List.length_append, List.length_take, List.length_drop, List.length_replicate, List.length_set, mkG_len] <;> omega) | fail) only [push_cast, if_pos, decide_eq_true, decide_eq_false, wr_id, List.map_append, List.length_append, List.length_cons, List.length_nil, Nat.zero_add, Nat.reduceAdd, Nat.reduceSub, Nat.reduceMul, Nat.reduceBEq, Nat.reduceEqDiff, Nat.reduceLT, Nat.reduceLeDiff, Int.reduceToNat, Int.reduceLE, Int.reduceLT, Int.reduceAdd, Int.reduceSub, Int.reduceMul, Int.reduceEq, Int.reduceNeg, ↓reduceIte, reduceCtorEq]
      have hkm : k = m.length := by omega
      rw [hkm, List.take_length, ← hm, ← hqs] at hQ
      (simp -dsimp (disch := first | omega | (simp only [hkm, List.length_cons, List.length_nil, List.length_map, List.length_append, List.length_take, List.length_drop, List.length_replicate, List.length_set, mkG_len] <;> omega) | fail) only [push_cast, if_pos, decide_eq_true, decide_eq_false, hkm, Nat.reduceAdd, Nat.reduceSub, Nat.reduceMul, Nat.reduceBEq, Nat.reduceEqDiff, Nat.reduceLT, Nat.reduceLeDiff, Int.reduceToNat, Int.reduceLE, Int.reduceLT, Int.reduceAdd, Int.reduceSub, Int.reduceMul, Int.reduceEq, Int.reduceNeg, ↓reduceIte, reduceCtorEq]) <;> (repeat (refine (aw_draw (by kernel_rfl)).2 ?_; simp -dsimp (disch := first | omega | (simp only [hkm, List.length_cons, List.length_nil, List.length_map, List.length_append, List.length_take, List.length_drop, List.length_replicate, List.length_set, mkG_len] <;> omega) | fail) only [push_cast, if_pos, decide_eq_true, decide_eq_false, hkm, Nat.reduceAdd, Nat.reduceSub, Nat.reduceMul, Nat.reduceBEq, Nat.reduceEqDiff, Nat.reduceLT, Nat.reduceLeDiff, Int.reduceToNat, Int.reduceLE, Int.reduceLT, Int.reduceAdd, Int.reduceSub, Int.reduceMul, Int.reduceEq, Int.reduceNeg, ↓reduceIte, reduceCtorEq]))
      refine ih (i + 1) _ hlt ⟨⟨_, _, hst⟩, fun j t hj ht => ?_⟩ ?_
      · by_cases hji : j = i
        · subst hji
          rw [hx] at ht; cases ht
          exact hnm0
        · exact hno j t (by omega) ht
      · rw [hQ]
        simp -dsimp (disch := first | omega | (simp only [wr_id, List.length_cons, List.length_nil, List.length_map, List.length_append, List.length_take, List.length_drop, List.length_replicate, List.length_set, mkG_len] <;> omega) | fail) only [push_cast, if_pos, decide_eq_true, decide_eq_false, wr_id, Nat.reduceAdd, Nat.reduceSub, Nat.reduceMul, Nat.reduceBEq, Nat.reduceEqDiff, Nat.reduceLT, Nat.reduceLeDiff, Int.reduceToNat, Int.reduceLE, Int.reduceLT, Int.reduceAdd, Int.reduceSub, Int.reduceMul, Int.reduceEq, Int.reduceNeg, ↓reduceIte, reduceCtorEq]
      | false =>
      have hex : mixT a b w ((⟨fr, to, n, mix, false, Ss⟩ : Note), true) ↔ ((thr b fr to).length : Int) = n ∧ mixS (thr b fr to) w = mix ∧ ∃ x ∈ thr b fr to, x ∉ a := ⟨fun q => q.2, fun q => ⟨rfl, q⟩⟩
      have hsub : ∀ x ∈ thr b fr to, x ∈ b ∧ inT fr to x = true := fun x hx => thr_mem.1 hx
      have hev : ∀ x ∈ b, inT fr to x = true → x ∈ thr b fr to := fun x hx hi => thr_mem.2 ⟨hx, hi⟩
      have htl := thr_len b fr to
      generalize hTT : thr b fr to = T at hex hsub hev htl tl
      generalize mixS T w = X at hex tl
      (simp -dsimp (disch := first | omega | (simp only [hxm, hxb, List.length_cons, List.length_nil, List.length_map, List.length_append, List.length_take, List.length_drop, List.length_replicate, List.length_set, mkG_len] <;> omega) | fail) only [push_cast, if_pos, decide_eq_true, decide_eq_false, hxm, hxb, Nat.reduceAdd, Nat.reduceSub, Nat.reduceMul, Nat.reduceBEq, Nat.reduceEqDiff, Nat.reduceLT, Nat.reduceLeDiff, Int.reduceToNat, Int.reduceLE, Int.reduceLT, Int.reduceAdd, Int.reduceSub, Int.reduceMul, Int.reduceEq, Int.reduceNeg, ↓reduceIte, reduceCtorEq]) <;> (repeat (refine (aw_draw (by kernel_rfl)).2 ?_; simp -dsimp (disch := first | omega | (simp only [hxm, hxb, List.length_cons, List.length_nil, List.length_map, List.length_append, List.length_take, List.length_drop, List.length_replicate, List.length_set, mkG_len] <;> omega) | fail) only [push_cast, if_pos, decide_eq_true, decide_eq_false, hxm, hxb, Nat.reduceAdd, Nat.reduceSub, Nat.reduceMul, Nat.reduceBEq, Nat.reduceEqDiff, Nat.reduceLT, Nat.reduceLeDiff, Int.reduceToNat, Int.reduceLE, Int.reduceLT, Int.reduceAdd, Int.reduceSub, Int.reduceMul, Int.reduceEq, Int.reduceNeg, ↓reduceIte, reduceCtorEq]))
      refine callC tl ?_
      by_cases e2 : (T.length : Int) = n
      rotate_left
      focus
        (simp -dsimp (disch := first | omega | (simp only [e2, List.length_cons, List.length_nil, List.length_map, List.length_append, List.length_take, List.length_drop, List.length_replicate, List.length_set, mkG_len] <;> omega) | fail) only [push_cast, if_pos, decide_eq_true, decide_eq_false, e2, Nat.reduceAdd, Nat.reduceSub, Nat.reduceMul, Nat.reduceBEq, Nat.reduceEqDiff, Nat.reduceLT, Nat.reduceLeDiff, Int.reduceToNat, Int.reduceLE, Int.reduceLT, Int.reduceAdd, Int.reduceSub, Int.reduceMul, Int.reduceEq, Int.reduceNeg, ↓reduceIte, reduceCtorEq]) <;> (repeat (refine (aw_draw (by kernel_rfl)).2 ?_; simp -dsimp (disch := first | omega | (simp only [e2, List.length_cons, List.length_nil, List.length_map, List.length_append, List.length_take, List.length_drop, List.length_replicate, List.length_set, mkG_len] <;> omega) | fail) only [push_cast, if_pos, decide_eq_true, decide_eq_false, e2, Nat.reduceAdd, Nat.reduceSub, Nat.reduceMul, Nat.reduceBEq, Nat.reduceEqDiff, Nat.reduceLT, Nat.reduceLeDiff, Int.reduceToNat, Int.reduceLE, Int.reduceLT, Int.reduceAdd, Int.reduceSub, Int.reduceMul, Int.reduceEq, Int.reduceNeg, ↓reduceIte, reduceCtorEq]))
        have hnm0 : ¬ mixT a b w ((⟨fr, to, n, mix, false, Ss⟩ : Note), true) := fun q => e2 (hex.1 q).1
      rotate_left
      focus
        by_cases e3 : X = mix
        rotate_left
        focus
          (simp -dsimp (disch := first | omega | (simp only [e2, e3, List.length_cons, List.length_nil, List.length_map, List.length_append, List.length_take, List.length_drop, List.length_replicate, List.length_set, mkG_len] <;> omega) | fail) only [push_cast, if_pos, decide_eq_true, decide_eq_false, e2, e3, Nat.reduceAdd, Nat.reduceSub, Nat.reduceMul, Nat.reduceBEq, Nat.reduceEqDiff, Nat.reduceLT, Nat.reduceLeDiff, Int.reduceToNat, Int.reduceLE, Int.reduceLT, Int.reduceAdd, Int.reduceSub, Int.reduceMul, Int.reduceEq, Int.reduceNeg, ↓reduceIte, reduceCtorEq]) <;> (repeat (refine (aw_draw (by kernel_rfl)).2 ?_; simp -dsimp (disch := first | omega | (simp only [e2, e3, List.length_cons, List.length_nil, List.length_map, List.length_append, List.length_take, List.length_drop, List.length_replicate, List.length_set, mkG_len] <;> omega) | fail) only [push_cast, if_pos, decide_eq_true, decide_eq_false, e2, e3, Nat.reduceAdd, Nat.reduceSub, Nat.reduceMul, Nat.reduceBEq, Nat.reduceEqDiff, Nat.reduceLT, Nat.reduceLeDiff, Int.reduceToNat, Int.reduceLE, Int.reduceLT, Int.reduceAdd, Int.reduceSub, Int.reduceMul, Int.reduceEq, Int.reduceNeg, ↓reduceIte, reduceCtorEq]))
          have hnm0 : ¬ mixT a b w ((⟨fr, to, n, mix, false, Ss⟩ : Note), true) := fun q => e3 (hex.1 q).2.1
        rotate_left
        focus
            (simp -dsimp (disch := first | omega | (simp only [e2, e3, List.length_cons, List.length_nil, List.length_map, List.length_append, List.length_take, List.length_drop, List.length_replicate, List.length_set, mkG_len] <;> omega) | fail) only [push_cast, if_pos, decide_eq_true, decide_eq_false, e2, e3, Nat.reduceAdd, Nat.reduceSub, Nat.reduceMul, Nat.reduceBEq, Nat.reduceEqDiff, Nat.reduceLT, Nat.reduceLeDiff, Int.reduceToNat, Int.reduceLE, Int.reduceLT, Int.reduceAdd, Int.reduceSub, Int.reduceMul, Int.reduceEq, Int.reduceNeg, ↓reduceIte, reduceCtorEq]) <;> (repeat (refine (aw_draw (by kernel_rfl)).2 ?_; simp -dsimp (disch := first | omega | (simp only [e2, e3, List.length_cons, List.length_nil, List.length_map, List.length_append, List.length_take, List.length_drop, List.length_replicate, List.length_set, mkG_len] <;> omega) | fail) only [push_cast, if_pos, decide_eq_true, decide_eq_false, e2, e3, Nat.reduceAdd, Nat.reduceSub, Nat.reduceMul, Nat.reduceBEq, Nat.reduceEqDiff, Nat.reduceLT, Nat.reduceLeDiff, Int.reduceToNat, Int.reduceLE, Int.reduceLT, Int.reduceAdd, Int.reduceSub, Int.reduceMul, Int.reduceEq, Int.reduceNeg, ↓reduceIte, reduceCtorEq]))
            refine loop_ind (α := Nat) (fun k => k ≤ b.length ∧ ∀ j x, j < k → b[j]? = some x → inT fr to x = true → x ∈ a)
              (fun k => ⟨[(0, .sl false 1 (a.map strR)), (1, .sl false 1 (b.map strR)), (2, .sc (.int .i64 w)), (7, .ow 1 0 (qs a b w i).length), (8, .ow 2 0 (qs a b w i).length), (9, .sc (.int .i64 i)), (10, .sl false 1 (b.map strR)), (11, .sl false 1 (a.map strR)), (12, .pt 3 0 0), (14, .sc (.int .i64 k))],
                [(1, .ar 6 0 ((qs a b w i).map tN)), (2, .ar 1 0 ((qs a b w i).map tB)), (3, .bx (tN ((⟨fr, to, n, mix, false, Ss⟩ : Note), true)))], 4⟩)
              (fun k => b.length - k) 0 ⟨Nat.zero_le _, fun j x hj => by omega⟩ ?_ ?_
            · simp -dsimp (disch := first | omega | (simp only [List.length_cons, List.length_nil, List.length_map, List.length_append, List.length_take, List.length_drop, List.length_replicate, List.length_set, mkG_len] <;> omega) | fail) only [push_cast, if_pos, decide_eq_true, decide_eq_false, Nat.reduceAdd, Nat.reduceSub, Nat.reduceMul, Nat.reduceBEq, Nat.reduceEqDiff, Nat.reduceLT, Nat.reduceLeDiff, Int.reduceToNat, Int.reduceLE, Int.reduceLT, Int.reduceAdd, Int.reduceSub, Int.reduceMul, Int.reduceEq, Int.reduceNeg, ↓reduceIte, reduceCtorEq]
            rintro k ⟨hk, hq2⟩ ih2
            by_cases hkl : k < b.length
            · obtain ⟨x, hx1⟩ := ex_get hkl
              have hxm2 : x ∈ b := List.mem_of_getElem? hx1
              by_cases hin : inT fr to x = true
              rotate_left
              · have hno2 : ∀ y j, j < k + 1 → b[j]? = some y → inT fr to y = true → y ∈ a := fun y j hj hy hi => by
                  by_cases ej : j = k
                  · subst ej; rw [hx1] at hy; cases hy; exact (hin hi).elim
                  · exact hq2 j y (by omega) hy hi
                cases q1 : lts x fr with
                | true =>
                  (simp -dsimp (disch := first | omega | (simp only [hx1, q1, List.length_cons, List.length_nil, List.length_map, List.length_append, List.length_take, List.length_drop, List.length_replicate, List.length_set, mkG_len] <;> omega) | fail) only [push_cast, if_pos, decide_eq_true, decide_eq_false, hx1, q1, Nat.reduceAdd, Nat.reduceSub, Nat.reduceMul, Nat.reduceBEq, Nat.reduceEqDiff, Nat.reduceLT, Nat.reduceLeDiff, Int.reduceToNat, Int.reduceLE, Int.reduceLT, Int.reduceAdd, Int.reduceSub, Int.reduceMul, Int.reduceEq, Int.reduceNeg, ↓reduceIte, reduceCtorEq]) <;> (repeat (refine (aw_draw (by kernel_rfl)).2 ?_; simp -dsimp (disch := first | omega | (simp only [hx1, q1, List.length_cons, List.length_nil, List.length_map, List.length_append, List.length_take, List.length_drop, List.length_replicate, List.length_set, mkG_len] <;> omega) | fail) only [push_cast, if_pos, decide_eq_true, decide_eq_false, hx1, q1, Nat.reduceAdd, Nat.reduceSub, Nat.reduceMul, Nat.reduceBEq, Nat.reduceEqDiff, Nat.reduceLT, Nat.reduceLeDiff, Int.reduceToNat, Int.reduceLE, Int.reduceLT, Int.reduceAdd, Int.reduceSub, Int.reduceMul, Int.reduceEq, Int.reduceNeg, ↓reduceIte, reduceCtorEq]))
                  refine ih2 (k + 1) _ (by omega) ⟨hkl, fun j y hj hy hi => hno2 y j hj hy hi⟩ ?_
                  simp -dsimp (disch := first | omega | (simp only [wr_id, List.length_cons, List.length_nil, List.length_map, List.length_append, List.length_take, List.length_drop, List.length_replicate, List.length_set, mkG_len] <;> omega) | fail) only [push_cast, if_pos, decide_eq_true, decide_eq_false, wr_id, Nat.reduceAdd, Nat.reduceSub, Nat.reduceMul, Nat.reduceBEq, Nat.reduceEqDiff, Nat.reduceLT, Nat.reduceLeDiff, Int.reduceToNat, Int.reduceLE, Int.reduceLT, Int.reduceAdd, Int.reduceSub, Int.reduceMul, Int.reduceEq, Int.reduceNeg, ↓reduceIte, reduceCtorEq]
                | false =>
                  have hn1 : ¬ to = em := fun e => by unfold inT at hin; rw [q1] at hin; simp [e] at hin
                  have hn2 : lts x to = false := by
                    unfold inT at hin; rw [q1] at hin; simp [hn1] at hin; exact hin
                  have hn3 : ¬ to = ⟨#[]⟩ := hn1
                  (simp -dsimp (disch := first | omega | (simp only [hx1, q1, hn3, hn2, List.length_cons, List.length_nil, List.length_map, List.length_append, List.length_take, List.length_drop, List.length_replicate, List.length_set, mkG_len] <;> omega) | fail) only [push_cast, if_pos, decide_eq_true, decide_eq_false, hx1, q1, hn3, hn2, Nat.reduceAdd, Nat.reduceSub, Nat.reduceMul, Nat.reduceBEq, Nat.reduceEqDiff, Nat.reduceLT, Nat.reduceLeDiff, Int.reduceToNat, Int.reduceLE, Int.reduceLT, Int.reduceAdd, Int.reduceSub, Int.reduceMul, Int.reduceEq, Int.reduceNeg, ↓reduceIte, reduceCtorEq]) <;> (repeat (refine (aw_draw (by kernel_rfl)).2 ?_; simp -dsimp (disch := first | omega | (simp only [hx1, q1, hn3, hn2, List.length_cons, List.length_nil, List.length_map, List.length_append, List.length_take, List.length_drop, List.length_replicate, List.length_set, mkG_len] <;> omega) | fail) only [push_cast, if_pos, decide_eq_true, decide_eq_false, hx1, q1, hn3, hn2, Nat.reduceAdd, Nat.reduceSub, Nat.reduceMul, Nat.reduceBEq, Nat.reduceEqDiff, Nat.reduceLT, Nat.reduceLeDiff, Int.reduceToNat, Int.reduceLE, Int.reduceLT, Int.reduceAdd, Int.reduceSub, Int.reduceMul, Int.reduceEq, Int.reduceNeg, ↓reduceIte, reduceCtorEq]))
                  refine ih2 (k + 1) _ (by omega) ⟨hkl, fun j y hj hy hi => hno2 y j hj hy hi⟩ ?_
                  simp -dsimp (disch := first | omega | (simp only [wr_id, List.length_cons, List.length_nil, List.length_map, List.length_append, List.length_take, List.length_drop, List.length_replicate, List.length_set, mkG_len] <;> omega) | fail) only [push_cast, if_pos, decide_eq_true, decide_eq_false, wr_id, Nat.reduceAdd, Nat.reduceSub, Nat.reduceMul, Nat.reduceBEq, Nat.reduceEqDiff, Nat.reduceLT, Nat.reduceLeDiff, Int.reduceToNat, Int.reduceLE, Int.reduceLT, Int.reduceAdd, Int.reduceSub, Int.reduceMul, Int.reduceEq, Int.reduceNeg, ↓reduceIte, reduceCtorEq]
              have hnn := hin
              unfold inT at hnn
              simp only [Bool.and_eq_true, Bool.not_eq_true', Bool.or_eq_true, decide_eq_true_eq] at hnn
              obtain ⟨q1, q2⟩ := hnn
              by_cases hto : to = ⟨#[]⟩
              rotate_left
              focus
                have hto2 : ¬ to = em := hto
                have q3 : lts x to = true := by
                  rcases q2 with q2 | q2
                  · exact (hto2 q2).elim
                  · exact q2
                (simp -dsimp (disch := first | omega | (simp only [hx1, q1, hto, q3, List.length_cons, List.length_nil, List.length_map, List.length_append, List.length_take, List.length_drop, List.length_replicate, List.length_set, mkG_len] <;> omega) | fail) only [push_cast, if_pos, decide_eq_true, decide_eq_false, hx1, q1, hto, q3, Nat.reduceAdd, Nat.reduceSub, Nat.reduceMul, Nat.reduceBEq, Nat.reduceEqDiff, Nat.reduceLT, Nat.reduceLeDiff, Int.reduceToNat, Int.reduceLE, Int.reduceLT, Int.reduceAdd, Int.reduceSub, Int.reduceMul, Int.reduceEq, Int.reduceNeg, ↓reduceIte, reduceCtorEq]) <;> (repeat (refine (aw_draw (by kernel_rfl)).2 ?_; simp -dsimp (disch := first | omega | (simp only [hx1, q1, hto, q3, List.length_cons, List.length_nil, List.length_map, List.length_append, List.length_take, List.length_drop, List.length_replicate, List.length_set, mkG_len] <;> omega) | fail) only [push_cast, if_pos, decide_eq_true, decide_eq_false, hx1, q1, hto, q3, Nat.reduceAdd, Nat.reduceSub, Nat.reduceMul, Nat.reduceBEq, Nat.reduceEqDiff, Nat.reduceLT, Nat.reduceLeDiff, Int.reduceToNat, Int.reduceLE, Int.reduceLT, Int.reduceAdd, Int.reduceSub, Int.reduceMul, Int.reduceEq, Int.reduceNeg, ↓reduceIte, reduceCtorEq]))
              rotate_left
              focus
                subst hto
                (simp -dsimp (disch := first | omega | (simp only [hx1, q1, List.length_cons, List.length_nil, List.length_map, List.length_append, List.length_take, List.length_drop, List.length_replicate, List.length_set, mkG_len] <;> omega) | fail) only [push_cast, if_pos, decide_eq_true, decide_eq_false, hx1, q1, Nat.reduceAdd, Nat.reduceSub, Nat.reduceMul, Nat.reduceBEq, Nat.reduceEqDiff, Nat.reduceLT, Nat.reduceLeDiff, Int.reduceToNat, Int.reduceLE, Int.reduceLT, Int.reduceAdd, Int.reduceSub, Int.reduceMul, Int.reduceEq, Int.reduceNeg, ↓reduceIte, reduceCtorEq]) <;> (repeat (refine (aw_draw (by kernel_rfl)).2 ?_; simp -dsimp (disch := first | omega | (simp only [hx1, q1, List.length_cons, List.length_nil, List.length_map, List.length_append, List.length_take, List.length_drop, List.length_replicate, List.length_set, mkG_len] <;> omega) | fail) only [push_cast, if_pos, decide_eq_true, decide_eq_false, hx1, q1, Nat.reduceAdd, Nat.reduceSub, Nat.reduceMul, Nat.reduceBEq, Nat.reduceEqDiff, Nat.reduceLT, Nat.reduceLeDiff, Int.reduceToNat, Int.reduceLE, Int.reduceLT, Int.reduceAdd, Int.reduceSub, Int.reduceMul, Int.reduceEq, Int.reduceNeg, ↓reduceIte, reduceCtorEq]))
              all_goals
                refine callC (wIn a x hal) ?_
                cases hxs : inL a x with
                | true =>
                  (simp -dsimp (disch := first | omega | (simp only [List.length_cons, List.length_nil, List.length_map, List.length_append, List.length_take, List.length_drop, List.length_replicate, List.length_set, mkG_len] <;> omega) | fail) only [push_cast, if_pos, decide_eq_true, decide_eq_false, Nat.reduceAdd, Nat.reduceSub, Nat.reduceMul, Nat.reduceBEq, Nat.reduceEqDiff, Nat.reduceLT, Nat.reduceLeDiff, Int.reduceToNat, Int.reduceLE, Int.reduceLT, Int.reduceAdd, Int.reduceSub, Int.reduceMul, Int.reduceEq, Int.reduceNeg, ↓reduceIte, reduceCtorEq]) <;> (repeat (refine (aw_draw (by kernel_rfl)).2 ?_; simp -dsimp (disch := first | omega | (simp only [List.length_cons, List.length_nil, List.length_map, List.length_append, List.length_take, List.length_drop, List.length_replicate, List.length_set, mkG_len] <;> omega) | fail) only [push_cast, if_pos, decide_eq_true, decide_eq_false, Nat.reduceAdd, Nat.reduceSub, Nat.reduceMul, Nat.reduceBEq, Nat.reduceEqDiff, Nat.reduceLT, Nat.reduceLeDiff, Int.reduceToNat, Int.reduceLE, Int.reduceLT, Int.reduceAdd, Int.reduceSub, Int.reduceMul, Int.reduceEq, Int.reduceNeg, ↓reduceIte, reduceCtorEq]))
                  refine ih2 (k + 1) _ (by omega) ⟨hkl, fun j y hj hy hi => ?_⟩ ?_
                  · by_cases ej : j = k
                    · subst ej; rw [hx1] at hy; cases hy; exact (inL_iff _ _).1 hxs
                    · exact hq2 j y (by omega) hy hi
                  · simp -dsimp (disch := first | omega | (simp only [wr_id, List.length_cons, List.length_nil, List.length_map, List.length_append, List.length_take, List.length_drop, List.length_replicate, List.length_set, mkG_len] <;> omega) | fail) only [push_cast, if_pos, decide_eq_true, decide_eq_false, wr_id, Nat.reduceAdd, Nat.reduceSub, Nat.reduceMul, Nat.reduceBEq, Nat.reduceEqDiff, Nat.reduceLT, Nat.reduceLeDiff, Int.reduceToNat, Int.reduceLE, Int.reduceLT, Int.reduceAdd, Int.reduceSub, Int.reduceMul, Int.reduceEq, Int.reduceNeg, ↓reduceIte, reduceCtorEq]
                | false =>
                  have hMt : M = true := by
                    rw [hM]
                    refine mixB_true ⟨i, _, hx, hex.2 ⟨e2, e3, x, hev x hxm2 hin, fun q => ?_⟩⟩
                    rw [(inL_iff _ _).2 q] at hxs; cases hxs
                  (simp -dsimp (disch := first | omega | (simp only [hMt, List.length_cons, List.length_nil, List.length_map, List.length_append, List.length_take, List.length_drop, List.length_replicate, List.length_set, mkG_len] <;> omega) | fail) only [push_cast, if_pos, decide_eq_true, decide_eq_false, hMt, Nat.reduceAdd, Nat.reduceSub, Nat.reduceMul, Nat.reduceBEq, Nat.reduceEqDiff, Nat.reduceLT, Nat.reduceLeDiff, Int.reduceToNat, Int.reduceLE, Int.reduceLT, Int.reduceAdd, Int.reduceSub, Int.reduceMul, Int.reduceEq, Int.reduceNeg, ↓reduceIte, reduceCtorEq]) <;> (repeat (refine (aw_draw (by kernel_rfl)).2 ?_; simp -dsimp (disch := first | omega | (simp only [hMt, List.length_cons, List.length_nil, List.length_map, List.length_append, List.length_take, List.length_drop, List.length_replicate, List.length_set, mkG_len] <;> omega) | fail) only [push_cast, if_pos, decide_eq_true, decide_eq_false, hMt, Nat.reduceAdd, Nat.reduceSub, Nat.reduceMul, Nat.reduceBEq, Nat.reduceEqDiff, Nat.reduceLT, Nat.reduceLeDiff, Int.reduceToNat, Int.reduceLE, Int.reduceLT, Int.reduceAdd, Int.reduceSub, Int.reduceMul, Int.reduceEq, Int.reduceNeg, ↓reduceIte, reduceCtorEq]))
            have hkl : k = b.length := by omega
            (simp -dsimp (disch := first | omega | (simp only [hkl, List.length_cons, List.length_nil, List.length_map, List.length_append, List.length_take, List.length_drop, List.length_replicate, List.length_set, mkG_len] <;> omega) | fail) only [push_cast, if_pos, decide_eq_true, decide_eq_false, hkl, Nat.reduceAdd, Nat.reduceSub, Nat.reduceMul, Nat.reduceBEq, Nat.reduceEqDiff, Nat.reduceLT, Nat.reduceLeDiff, Int.reduceToNat, Int.reduceLE, Int.reduceLT, Int.reduceAdd, Int.reduceSub, Int.reduceMul, Int.reduceEq, Int.reduceNeg, ↓reduceIte, reduceCtorEq]) <;> (repeat (refine (aw_draw (by kernel_rfl)).2 ?_; simp -dsimp (disch := first | omega | (simp only [hkl, List.length_cons, List.length_nil, List.length_map, List.length_append, List.length_take, List.length_drop, List.length_replicate, List.length_set, mkG_len] <;> omega) | fail) only [push_cast, if_pos, decide_eq_true, decide_eq_false, hkl, Nat.reduceAdd, Nat.reduceSub, Nat.reduceMul, Nat.reduceBEq, Nat.reduceEqDiff, Nat.reduceLT, Nat.reduceLeDiff, Int.reduceToNat, Int.reduceLE, Int.reduceLT, Int.reduceAdd, Int.reduceSub, Int.reduceMul, Int.reduceEq, Int.reduceNeg, ↓reduceIte, reduceCtorEq]))
            have hnm0 : ¬ mixT a b w ((⟨fr, to, n, mix, false, Ss⟩ : Note), true) := fun q => by
              obtain ⟨_, _, x, hx5, hx6⟩ := hex.1 q
              obtain ⟨hx7, hx8⟩ := hsub x hx5
              obtain ⟨j, hj⟩ := List.getElem?_of_mem hx7
              exact hx6 (hq2 j x (by have := idx_lt hj; omega) hj hx8)
      all_goals
        have hask : askN a b w ((⟨fr, to, n, mix, false, Ss⟩ : Note), true) = hearN b (⟨fr, to, n, mix, false, Ss⟩ : Note) w := rfl
        have hm : moreN a b w ((⟨fr, to, n, mix, false, Ss⟩ : Note), true) = (hearN b (⟨fr, to, n, mix, false, Ss⟩ : Note) w).1.map fun n => (n, false) := rfl
        rw [hask] at hk1 hk2
        refine callC (specHear b (⟨fr, to, n, mix, false, Ss⟩ : Note) w hbl (by simp only; omega)) ?_
        generalize hearN b (⟨fr, to, n, mix, false, Ss⟩ : Note) w = R at *
        obtain ⟨m, x, y⟩ := R
        simp only at hk1 hk2 hm
        (simp -dsimp (disch := first | omega | (simp only [List.length_cons, List.length_nil, List.length_map, List.length_append, List.length_take, List.length_drop, List.length_replicate, List.length_set, mkG_len] <;> omega) | fail) only [push_cast, if_pos, decide_eq_true, decide_eq_false, Nat.reduceAdd, Nat.reduceSub, Nat.reduceMul, Nat.reduceBEq, Nat.reduceEqDiff, Nat.reduceLT, Nat.reduceLeDiff, Int.reduceToNat, Int.reduceLE, Int.reduceLT, Int.reduceAdd, Int.reduceSub, Int.reduceMul, Int.reduceEq, Int.reduceNeg, ↓reduceIte, reduceCtorEq]) <;> (repeat (refine (aw_draw (by kernel_rfl)).2 ?_; simp -dsimp (disch := first | omega | (simp only [List.length_cons, List.length_nil, List.length_map, List.length_append, List.length_take, List.length_drop, List.length_replicate, List.length_set, mkG_len] <;> omega) | fail) only [push_cast, if_pos, decide_eq_true, decide_eq_false, Nat.reduceAdd, Nat.reduceSub, Nat.reduceMul, Nat.reduceBEq, Nat.reduceEqDiff, Nat.reduceLT, Nat.reduceLeDiff, Int.reduceToNat, Int.reduceLE, Int.reduceLT, Int.reduceAdd, Int.reduceSub, Int.reduceMul, Int.reduceEq, Int.reduceNeg, ↓reduceIte, reduceCtorEq]))
        refine loop_ind (α := Nat × List Tn) (fun p => p.1 ≤ m.length ∧ p.2 = qs a b w i ++ (m.take p.1).map fun n => (n, false))
          (fun p => ⟨[(0, .sl false 1 (a.map strR)), (1, .sl false 1 (b.map strR)), (2, .sc (.int .i64 w)), (7, .ow 1 0 p.2.length), (8, .ow 2 0 p.2.length), (9, .sc (.int .i64 i)), (16, .ow 3 0 m.length), (19, .sc (.int .i64 p.1))],
            [(1, .ar 6 0 (p.2.map tN)), (2, .ar 1 0 (p.2.map tB)), (3, .fz 6 (m.map (noteC true)))], 4⟩)
          (fun p => m.length - p.1) (0, qs a b w i) ⟨Nat.zero_le _, by simp⟩ ?_ ?_
        · simp -dsimp (disch := first | omega | (simp only [List.length_cons, List.length_nil, List.length_map, List.length_append, List.length_take, List.length_drop, List.length_replicate, List.length_set, mkG_len] <;> omega) | fail) only [push_cast, if_pos, decide_eq_true, decide_eq_false, Nat.reduceAdd, Nat.reduceSub, Nat.reduceMul, Nat.reduceBEq, Nat.reduceEqDiff, Nat.reduceLT, Nat.reduceLeDiff, Int.reduceToNat, Int.reduceLE, Int.reduceLT, Int.reduceAdd, Int.reduceSub, Int.reduceMul, Int.reduceEq, Int.reduceNeg, ↓reduceIte, reduceCtorEq]
        rintro ⟨k, Q⟩ ⟨hk, hQ⟩ ih2
        replace hQ : Q = qs a b w i ++ (m.take k).map fun n => (n, false) := hQ
        replace hk : k ≤ m.length := hk
        have hQl : Q.length = (qs a b w i).length + k := by rw [hQ, List.length_append, List.length_map, List.length_take]; omega
        have hxR : (Q.map tB)[i]? = some (tB ((⟨fr, to, n, mix, false, Ss⟩ : Note), true)) := by
          rw [List.getElem?_map, hQ, List.getElem?_append_left h, hx]; rfl
        by_cases hkm : k < m.length
        · obtain ⟨n2, hn2⟩ := ex_get hkm
          have hnm : (m.map (noteC true))[k]? = some (noteC true n2) := by rw [List.getElem?_map, hn2]; rfl
          (simp -dsimp (disch := first | omega | (simp only [hnm, hxR, List.length_cons, List.length_nil, List.length_map, List.length_append, List.length_take, List.length_drop, List.length_replicate, List.length_set, mkG_len] <;> omega) | fail) only [push_cast, if_pos, decide_eq_true, decide_eq_false, hnm, hxR, Nat.reduceAdd, Nat.reduceSub, Nat.reduceMul, Nat.reduceBEq, Nat.reduceEqDiff, Nat.reduceLT, Nat.reduceLeDiff, Int.reduceToNat, Int.reduceLE, Int.reduceLT, Int.reduceAdd, Int.reduceSub, Int.reduceMul, Int.reduceEq, Int.reduceNeg, ↓reduceIte, reduceCtorEq]) <;> (repeat (refine (aw_draw (by kernel_rfl)).2 ?_; simp -dsimp (disch := first | omega | (simp only [hnm, hxR, List.length_cons, List.length_nil, List.length_map, List.length_append, List.length_take, List.length_drop, List.length_replicate, List.length_set, mkG_len] <;> omega) | fail) only [push_cast, if_pos, decide_eq_true, decide_eq_false, hnm, hxR, Nat.reduceAdd, Nat.reduceSub, Nat.reduceMul, Nat.reduceBEq, Nat.reduceEqDiff, Nat.reduceLT, Nat.reduceLeDiff, Int.reduceToNat, Int.reduceLE, Int.reduceLT, Int.reduceAdd, Int.reduceSub, Int.reduceMul, Int.reduceEq, Int.reduceNeg, ↓reduceIte, reduceCtorEq]))
          refine ih2 (k + 1, Q ++ [(n2, false)]) _ (by show m.length - (k + 1) < m.length - k; omega) ⟨hkm, by rw [hQ, take_step hn2, List.map_append, List.append_assoc]; rfl⟩ ?_
          simp -dsimp (disch := first | omega | (simp only [wr_id, List.map_append, List.length_append, List.length_cons, List.length_nil, Nat.zero_add, List.length_cons, List.length_nil, List.length_map, List.length_append, List.length_take, List.length_drop, List.length_replicate, List.length_set, mkG_len] <;> omega) | fail) only [push_cast, if_pos, decide_eq_true, decide_eq_false, wr_id, List.map_append, List.length_append, List.length_cons, List.length_nil, Nat.zero_add, Nat.reduceAdd, Nat.reduceSub, Nat.reduceMul, Nat.reduceBEq, Nat.reduceEqDiff, Nat.reduceLT, Nat.reduceLeDiff, Int.reduceToNat, Int.reduceLE, Int.reduceLT, Int.reduceAdd, Int.reduceSub, Int.reduceMul, Int.reduceEq, Int.reduceNeg, ↓reduceIte, reduceCtorEq]
        have hkm : k = m.length := by omega
        rw [hkm, List.take_length, ← hm, ← hqs] at hQ
        (simp -dsimp (disch := first | omega | (simp only [hkm, List.length_cons, List.length_nil, List.length_map, List.length_append, List.length_take, List.length_drop, List.length_replicate, List.length_set, mkG_len] <;> omega) | fail) only [push_cast, if_pos, decide_eq_true, decide_eq_false, hkm, Nat.reduceAdd, Nat.reduceSub, Nat.reduceMul, Nat.reduceBEq, Nat.reduceEqDiff, Nat.reduceLT, Nat.reduceLeDiff, Int.reduceToNat, Int.reduceLE, Int.reduceLT, Int.reduceAdd, Int.reduceSub, Int.reduceMul, Int.reduceEq, Int.reduceNeg, ↓reduceIte, reduceCtorEq]) <;> (repeat (refine (aw_draw (by kernel_rfl)).2 ?_; simp -dsimp (disch := first | omega | (simp only [hkm, List.length_cons, List.length_nil, List.length_map, List.length_append, List.length_take, List.length_drop, List.length_replicate, List.length_set, mkG_len] <;> omega) | fail) only [push_cast, if_pos, decide_eq_true, decide_eq_false, hkm, Nat.reduceAdd, Nat.reduceSub, Nat.reduceMul, Nat.reduceBEq, Nat.reduceEqDiff, Nat.reduceLT, Nat.reduceLeDiff, Int.reduceToNat, Int.reduceLE, Int.reduceLT, Int.reduceAdd, Int.reduceSub, Int.reduceMul, Int.reduceEq, Int.reduceNeg, ↓reduceIte, reduceCtorEq]))
        refine ih (i + 1) _ hlt ⟨⟨_, _, hst⟩, fun j t hj ht => ?_⟩ ?_
        · by_cases hji : j = i
          · subst hji
            rw [hx] at ht; cases ht
            exact hnm0
          · exact hno j t (by omega) ht
        · rw [hQ]
          simp -dsimp (disch := first | omega | (simp only [wr_id, List.length_cons, List.length_nil, List.length_map, List.length_append, List.length_take, List.length_drop, List.length_replicate, List.length_set, mkG_len] <;> omega) | fail) only [push_cast, if_pos, decide_eq_true, decide_eq_false, wr_id, Nat.reduceAdd, Nat.reduceSub, Nat.reduceMul, Nat.reduceBEq, Nat.reduceEqDiff, Nat.reduceLT, Nat.reduceLeDiff, Int.reduceToNat, Int.reduceLE, Int.reduceLT, Int.reduceAdd, Int.reduceSub, Int.reduceMul, Int.reduceEq, Int.reduceNeg, ↓reduceIte, reduceCtorEq]
    | false =>
      have tl := specTell a fr to w hal
      rw [has_tell ha] at tl
      cases hs with
      | true =>
      (simp -dsimp (disch := first | omega | (simp only [hxm, hxb, List.length_cons, List.length_nil, List.length_map, List.length_append, List.length_take, List.length_drop, List.length_replicate, List.length_set, mkG_len] <;> omega) | fail) only [push_cast, if_pos, decide_eq_true, decide_eq_false, hxm, hxb, Nat.reduceAdd, Nat.reduceSub, Nat.reduceMul, Nat.reduceBEq, Nat.reduceEqDiff, Nat.reduceLT, Nat.reduceLeDiff, Int.reduceToNat, Int.reduceLE, Int.reduceLT, Int.reduceAdd, Int.reduceSub, Int.reduceMul, Int.reduceEq, Int.reduceNeg, ↓reduceIte, reduceCtorEq]) <;> (repeat (refine (aw_draw (by kernel_rfl)).2 ?_; simp -dsimp (disch := first | omega | (simp only [hxm, hxb, List.length_cons, List.length_nil, List.length_map, List.length_append, List.length_take, List.length_drop, List.length_replicate, List.length_set, mkG_len] <;> omega) | fail) only [push_cast, if_pos, decide_eq_true, decide_eq_false, hxm, hxb, Nat.reduceAdd, Nat.reduceSub, Nat.reduceMul, Nat.reduceBEq, Nat.reduceEqDiff, Nat.reduceLT, Nat.reduceLeDiff, Int.reduceToNat, Int.reduceLE, Int.reduceLT, Int.reduceAdd, Int.reduceSub, Int.reduceMul, Int.reduceEq, Int.reduceNeg, ↓reduceIte, reduceCtorEq]))
      refine callC tl ?_
      (simp -dsimp (disch := first | omega | (simp only [List.length_cons, List.length_nil, List.length_map, List.length_append, List.length_take, List.length_drop, List.length_replicate, List.length_set, mkG_len] <;> omega) | fail) only [push_cast, if_pos, decide_eq_true, decide_eq_false, Nat.reduceAdd, Nat.reduceSub, Nat.reduceMul, Nat.reduceBEq, Nat.reduceEqDiff, Nat.reduceLT, Nat.reduceLeDiff, Int.reduceToNat, Int.reduceLE, Int.reduceLT, Int.reduceAdd, Int.reduceSub, Int.reduceMul, Int.reduceEq, Int.reduceNeg, ↓reduceIte, reduceCtorEq]) <;> (repeat (refine (aw_draw (by kernel_rfl)).2 ?_; simp -dsimp (disch := first | omega | (simp only [List.length_cons, List.length_nil, List.length_map, List.length_append, List.length_take, List.length_drop, List.length_replicate, List.length_set, mkG_len] <;> omega) | fail) only [push_cast, if_pos, decide_eq_true, decide_eq_false, Nat.reduceAdd, Nat.reduceSub, Nat.reduceMul, Nat.reduceBEq, Nat.reduceEqDiff, Nat.reduceLT, Nat.reduceLeDiff, Int.reduceToNat, Int.reduceLE, Int.reduceLT, Int.reduceAdd, Int.reduceSub, Int.reduceMul, Int.reduceEq, Int.reduceNeg, ↓reduceIte, reduceCtorEq]))
      have hnm0 : ¬ mixT a b w ((⟨fr, to, n, mix, true, Ss⟩ : Note), false) := fun q => by cases q.1
      have hask : askN a b w ((⟨fr, to, n, mix, true, Ss⟩ : Note), false) = hearN a (⟨fr, to, n, mix, true, Ss⟩ : Note) w := rfl
      have hm : moreN a b w ((⟨fr, to, n, mix, true, Ss⟩ : Note), false) = (hearN a (⟨fr, to, n, mix, true, Ss⟩ : Note) w).1.map fun n => (n, true) := rfl
      rw [hask] at hk1 hk2
      refine callC (specHear a (⟨fr, to, n, mix, true, Ss⟩ : Note) w hal (by simp only; omega)) ?_
      generalize hearN a (⟨fr, to, n, mix, true, Ss⟩ : Note) w = R at *
      obtain ⟨m, x, y⟩ := R
      simp only at hk1 hk2 hm
      (simp -dsimp (disch := first | omega | (simp only [List.length_cons, List.length_nil, List.length_map, List.length_append, List.length_take, List.length_drop, List.length_replicate, List.length_set, mkG_len] <;> omega) | fail) only [push_cast, if_pos, decide_eq_true, decide_eq_false, Nat.reduceAdd, Nat.reduceSub, Nat.reduceMul, Nat.reduceBEq, Nat.reduceEqDiff, Nat.reduceLT, Nat.reduceLeDiff, Int.reduceToNat, Int.reduceLE, Int.reduceLT, Int.reduceAdd, Int.reduceSub, Int.reduceMul, Int.reduceEq, Int.reduceNeg, ↓reduceIte, reduceCtorEq]) <;> (repeat (refine (aw_draw (by kernel_rfl)).2 ?_; simp -dsimp (disch := first | omega | (simp only [List.length_cons, List.length_nil, List.length_map, List.length_append, List.length_take, List.length_drop, List.length_replicate, List.length_set, mkG_len] <;> omega) | fail) only [push_cast, if_pos, decide_eq_true, decide_eq_false, Nat.reduceAdd, Nat.reduceSub, Nat.reduceMul, Nat.reduceBEq, Nat.reduceEqDiff, Nat.reduceLT, Nat.reduceLeDiff, Int.reduceToNat, Int.reduceLE, Int.reduceLT, Int.reduceAdd, Int.reduceSub, Int.reduceMul, Int.reduceEq, Int.reduceNeg, ↓reduceIte, reduceCtorEq]))
      refine loop_ind (α := Nat × List Tn) (fun p => p.1 ≤ m.length ∧ p.2 = qs a b w i ++ (m.take p.1).map fun n => (n, true))
        (fun p => ⟨[(0, .sl false 1 (a.map strR)), (1, .sl false 1 (b.map strR)), (2, .sc (.int .i64 w)), (7, .ow 1 0 p.2.length), (8, .ow 2 0 p.2.length), (9, .sc (.int .i64 i)), (16, .ow 3 0 m.length), (19, .sc (.int .i64 p.1))],
          [(1, .ar 6 0 (p.2.map tN)), (2, .ar 1 0 (p.2.map tB)), (3, .fz 6 (m.map (noteC true)))], 4⟩)
        (fun p => m.length - p.1) (0, qs a b w i) ⟨Nat.zero_le _, by simp⟩ ?_ ?_
      · simp -dsimp (disch := first | omega | (simp only [List.length_cons, List.length_nil, List.length_map, List.length_append, List.length_take, List.length_drop, List.length_replicate, List.length_set, mkG_len] <;> omega) | fail) only [push_cast, if_pos, decide_eq_true, decide_eq_false, Nat.reduceAdd, Nat.reduceSub, Nat.reduceMul, Nat.reduceBEq, Nat.reduceEqDiff, Nat.reduceLT, Nat.reduceLeDiff, Int.reduceToNat, Int.reduceLE, Int.reduceLT, Int.reduceAdd, Int.reduceSub, Int.reduceMul, Int.reduceEq, Int.reduceNeg, ↓reduceIte, reduceCtorEq]
      rintro ⟨k, Q⟩ ⟨hk, hQ⟩ ih2
      replace hQ : Q = qs a b w i ++ (m.take k).map fun n => (n, true) := hQ
      replace hk : k ≤ m.length := hk
      have hQl : Q.length = (qs a b w i).length + k := by rw [hQ, List.length_append, List.length_map, List.length_take]; omega
      have hxR : (Q.map tB)[i]? = some (tB ((⟨fr, to, n, mix, true, Ss⟩ : Note), false)) := by
        rw [List.getElem?_map, hQ, List.getElem?_append_left h, hx]; rfl
      by_cases hkm : k < m.length
      · obtain ⟨n2, hn2⟩ := ex_get hkm
        have hnm : (m.map (noteC true))[k]? = some (noteC true n2) := by rw [List.getElem?_map, hn2]; rfl
        (simp -dsimp (disch := first | omega | (simp only [hnm, hxR, List.length_cons, List.length_nil, List.length_map, List.length_append, List.length_take, List.length_drop, List.length_replicate, List.length_set, mkG_len] <;> omega) | fail) only [push_cast, if_pos, decide_eq_true, decide_eq_false, hnm, hxR, Nat.reduceAdd, Nat.reduceSub, Nat.reduceMul, Nat.reduceBEq, Nat.reduceEqDiff, Nat.reduceLT, Nat.reduceLeDiff, Int.reduceToNat, Int.reduceLE, Int.reduceLT, Int.reduceAdd, Int.reduceSub, Int.reduceMul, Int.reduceEq, Int.reduceNeg, ↓reduceIte, reduceCtorEq]) <;> (repeat (refine (aw_draw (by kernel_rfl)).2 ?_; simp -dsimp (disch := first | omega | (simp only [hnm, hxR, List.length_cons, List.length_nil, List.length_map, List.length_append, List.length_take, List.length_drop, List.length_replicate, List.length_set, mkG_len] <;> omega) | fail) only [push_cast, if_pos, decide_eq_true, decide_eq_false, hnm, hxR, Nat.reduceAdd, Nat.reduceSub, Nat.reduceMul, Nat.reduceBEq, Nat.reduceEqDiff, Nat.reduceLT, Nat.reduceLeDiff, Int.reduceToNat, Int.reduceLE, Int.reduceLT, Int.reduceAdd, Int.reduceSub, Int.reduceMul, Int.reduceEq, Int.reduceNeg, ↓reduceIte, reduceCtorEq]))
        refine ih2 (k + 1, Q ++ [(n2, true)]) _ (by show m.length - (k + 1) < m.length - k; omega) ⟨hkm, by rw [hQ, take_step hn2, List.map_append, List.append_assoc]; rfl⟩ ?_
        simp -dsimp (disch := first | omega | (simp only [wr_id, List.map_append, List.length_append, List.length_cons, List.length_nil, Nat.zero_add, List.length_cons, List.length_nil, List.length_map, List.length_append, List.length_take, List.length_drop, List.length_replicate, List.length_set, mkG_len] <;> omega) | fail) only [push_cast, if_pos, decide_eq_true, decide_eq_false, wr_id, List.map_append, List.length_append, List.length_cons, List.length_nil, Nat.zero_add, Nat.reduceAdd, Nat.reduceSub, Nat.reduceMul, Nat.reduceBEq, Nat.reduceEqDiff, Nat.reduceLT, Nat.reduceLeDiff, Int.reduceToNat, Int.reduceLE, Int.reduceLT, Int.reduceAdd, Int.reduceSub, Int.reduceMul, Int.reduceEq, Int.reduceNeg, ↓reduceIte, reduceCtorEq]
      have hkm : k = m.length := by omega
      rw [hkm, List.take_length, ← hm, ← hqs] at hQ
      (simp -dsimp (disch := first | omega | (simp only [hkm, List.length_cons, List.length_nil, List.length_map, List.length_append, List.length_take, List.length_drop, List.length_replicate, List.length_set, mkG_len] <;> omega) | fail) only [push_cast, if_pos, decide_eq_true, decide_eq_false, hkm, Nat.reduceAdd, Nat.reduceSub, Nat.reduceMul, Nat.reduceBEq, Nat.reduceEqDiff, Nat.reduceLT, Nat.reduceLeDiff, Int.reduceToNat, Int.reduceLE, Int.reduceLT, Int.reduceAdd, Int.reduceSub, Int.reduceMul, Int.reduceEq, Int.reduceNeg, ↓reduceIte, reduceCtorEq]) <;> (repeat (refine (aw_draw (by kernel_rfl)).2 ?_; simp -dsimp (disch := first | omega | (simp only [hkm, List.length_cons, List.length_nil, List.length_map, List.length_append, List.length_take, List.length_drop, List.length_replicate, List.length_set, mkG_len] <;> omega) | fail) only [push_cast, if_pos, decide_eq_true, decide_eq_false, hkm, Nat.reduceAdd, Nat.reduceSub, Nat.reduceMul, Nat.reduceBEq, Nat.reduceEqDiff, Nat.reduceLT, Nat.reduceLeDiff, Int.reduceToNat, Int.reduceLE, Int.reduceLT, Int.reduceAdd, Int.reduceSub, Int.reduceMul, Int.reduceEq, Int.reduceNeg, ↓reduceIte, reduceCtorEq]))
      refine ih (i + 1) _ hlt ⟨⟨_, _, hst⟩, fun j t hj ht => ?_⟩ ?_
      · by_cases hji : j = i
        · subst hji
          rw [hx] at ht; cases ht
          exact hnm0
        · exact hno j t (by omega) ht
      · rw [hQ]
        simp -dsimp (disch := first | omega | (simp only [wr_id, List.length_cons, List.length_nil, List.length_map, List.length_append, List.length_take, List.length_drop, List.length_replicate, List.length_set, mkG_len] <;> omega) | fail) only [push_cast, if_pos, decide_eq_true, decide_eq_false, wr_id, Nat.reduceAdd, Nat.reduceSub, Nat.reduceMul, Nat.reduceBEq, Nat.reduceEqDiff, Nat.reduceLT, Nat.reduceLeDiff, Int.reduceToNat, Int.reduceLE, Int.reduceLT, Int.reduceAdd, Int.reduceSub, Int.reduceMul, Int.reduceEq, Int.reduceNeg, ↓reduceIte, reduceCtorEq]
      | false =>
      have hex : mixT a b w ((⟨fr, to, n, mix, false, Ss⟩ : Note), false) ↔ ((thr a fr to).length : Int) = n ∧ mixS (thr a fr to) w = mix ∧ ∃ x ∈ thr a fr to, x ∉ b := ⟨fun q => q.2, fun q => ⟨rfl, q⟩⟩
      have hsub : ∀ x ∈ thr a fr to, x ∈ a ∧ inT fr to x = true := fun x hx => thr_mem.1 hx
      have hev : ∀ x ∈ a, inT fr to x = true → x ∈ thr a fr to := fun x hx hi => thr_mem.2 ⟨hx, hi⟩
      have htl := thr_len a fr to
      generalize hTT : thr a fr to = T at hex hsub hev htl tl
      generalize mixS T w = X at hex tl
      (simp -dsimp (disch := first | omega | (simp only [hxm, hxb, List.length_cons, List.length_nil, List.length_map, List.length_append, List.length_take, List.length_drop, List.length_replicate, List.length_set, mkG_len] <;> omega) | fail) only [push_cast, if_pos, decide_eq_true, decide_eq_false, hxm, hxb, Nat.reduceAdd, Nat.reduceSub, Nat.reduceMul, Nat.reduceBEq, Nat.reduceEqDiff, Nat.reduceLT, Nat.reduceLeDiff, Int.reduceToNat, Int.reduceLE, Int.reduceLT, Int.reduceAdd, Int.reduceSub, Int.reduceMul, Int.reduceEq, Int.reduceNeg, ↓reduceIte, reduceCtorEq]) <;> (repeat (refine (aw_draw (by kernel_rfl)).2 ?_; simp -dsimp (disch := first | omega | (simp only [hxm, hxb, List.length_cons, List.length_nil, List.length_map, List.length_append, List.length_take, List.length_drop, List.length_replicate, List.length_set, mkG_len] <;> omega) | fail) only [push_cast, if_pos, decide_eq_true, decide_eq_false, hxm, hxb, Nat.reduceAdd, Nat.reduceSub, Nat.reduceMul, Nat.reduceBEq, Nat.reduceEqDiff, Nat.reduceLT, Nat.reduceLeDiff, Int.reduceToNat, Int.reduceLE, Int.reduceLT, Int.reduceAdd, Int.reduceSub, Int.reduceMul, Int.reduceEq, Int.reduceNeg, ↓reduceIte, reduceCtorEq]))
      refine callC tl ?_
      by_cases e2 : (T.length : Int) = n
      rotate_left
      focus
        (simp -dsimp (disch := first | omega | (simp only [e2, List.length_cons, List.length_nil, List.length_map, List.length_append, List.length_take, List.length_drop, List.length_replicate, List.length_set, mkG_len] <;> omega) | fail) only [push_cast, if_pos, decide_eq_true, decide_eq_false, e2, Nat.reduceAdd, Nat.reduceSub, Nat.reduceMul, Nat.reduceBEq, Nat.reduceEqDiff, Nat.reduceLT, Nat.reduceLeDiff, Int.reduceToNat, Int.reduceLE, Int.reduceLT, Int.reduceAdd, Int.reduceSub, Int.reduceMul, Int.reduceEq, Int.reduceNeg, ↓reduceIte, reduceCtorEq]) <;> (repeat (refine (aw_draw (by kernel_rfl)).2 ?_; simp -dsimp (disch := first | omega | (simp only [e2, List.length_cons, List.length_nil, List.length_map, List.length_append, List.length_take, List.length_drop, List.length_replicate, List.length_set, mkG_len] <;> omega) | fail) only [push_cast, if_pos, decide_eq_true, decide_eq_false, e2, Nat.reduceAdd, Nat.reduceSub, Nat.reduceMul, Nat.reduceBEq, Nat.reduceEqDiff, Nat.reduceLT, Nat.reduceLeDiff, Int.reduceToNat, Int.reduceLE, Int.reduceLT, Int.reduceAdd, Int.reduceSub, Int.reduceMul, Int.reduceEq, Int.reduceNeg, ↓reduceIte, reduceCtorEq]))
        have hnm0 : ¬ mixT a b w ((⟨fr, to, n, mix, false, Ss⟩ : Note), false) := fun q => e2 (hex.1 q).1
      rotate_left
      focus
        by_cases e3 : X = mix
        rotate_left
        focus
          (simp -dsimp (disch := first | omega | (simp only [e2, e3, List.length_cons, List.length_nil, List.length_map, List.length_append, List.length_take, List.length_drop, List.length_replicate, List.length_set, mkG_len] <;> omega) | fail) only [push_cast, if_pos, decide_eq_true, decide_eq_false, e2, e3, Nat.reduceAdd, Nat.reduceSub, Nat.reduceMul, Nat.reduceBEq, Nat.reduceEqDiff, Nat.reduceLT, Nat.reduceLeDiff, Int.reduceToNat, Int.reduceLE, Int.reduceLT, Int.reduceAdd, Int.reduceSub, Int.reduceMul, Int.reduceEq, Int.reduceNeg, ↓reduceIte, reduceCtorEq]) <;> (repeat (refine (aw_draw (by kernel_rfl)).2 ?_; simp -dsimp (disch := first | omega | (simp only [e2, e3, List.length_cons, List.length_nil, List.length_map, List.length_append, List.length_take, List.length_drop, List.length_replicate, List.length_set, mkG_len] <;> omega) | fail) only [push_cast, if_pos, decide_eq_true, decide_eq_false, e2, e3, Nat.reduceAdd, Nat.reduceSub, Nat.reduceMul, Nat.reduceBEq, Nat.reduceEqDiff, Nat.reduceLT, Nat.reduceLeDiff, Int.reduceToNat, Int.reduceLE, Int.reduceLT, Int.reduceAdd, Int.reduceSub, Int.reduceMul, Int.reduceEq, Int.reduceNeg, ↓reduceIte, reduceCtorEq]))
          have hnm0 : ¬ mixT a b w ((⟨fr, to, n, mix, false, Ss⟩ : Note), false) := fun q => e3 (hex.1 q).2.1
        rotate_left
        focus
            (simp -dsimp (disch := first | omega | (simp only [e2, e3, List.length_cons, List.length_nil, List.length_map, List.length_append, List.length_take, List.length_drop, List.length_replicate, List.length_set, mkG_len] <;> omega) | fail) only [push_cast, if_pos, decide_eq_true, decide_eq_false, e2, e3, Nat.reduceAdd, Nat.reduceSub, Nat.reduceMul, Nat.reduceBEq, Nat.reduceEqDiff, Nat.reduceLT, Nat.reduceLeDiff, Int.reduceToNat, Int.reduceLE, Int.reduceLT, Int.reduceAdd, Int.reduceSub, Int.reduceMul, Int.reduceEq, Int.reduceNeg, ↓reduceIte, reduceCtorEq]) <;> (repeat (refine (aw_draw (by kernel_rfl)).2 ?_; simp -dsimp (disch := first | omega | (simp only [e2, e3, List.length_cons, List.length_nil, List.length_map, List.length_append, List.length_take, List.length_drop, List.length_replicate, List.length_set, mkG_len] <;> omega) | fail) only [push_cast, if_pos, decide_eq_true, decide_eq_false, e2, e3, Nat.reduceAdd, Nat.reduceSub, Nat.reduceMul, Nat.reduceBEq, Nat.reduceEqDiff, Nat.reduceLT, Nat.reduceLeDiff, Int.reduceToNat, Int.reduceLE, Int.reduceLT, Int.reduceAdd, Int.reduceSub, Int.reduceMul, Int.reduceEq, Int.reduceNeg, ↓reduceIte, reduceCtorEq]))
            refine loop_ind (α := Nat) (fun k => k ≤ a.length ∧ ∀ j x, j < k → a[j]? = some x → inT fr to x = true → x ∈ b)
              (fun k => ⟨[(0, .sl false 1 (a.map strR)), (1, .sl false 1 (b.map strR)), (2, .sc (.int .i64 w)), (7, .ow 1 0 (qs a b w i).length), (8, .ow 2 0 (qs a b w i).length), (9, .sc (.int .i64 i)), (10, .sl false 1 (a.map strR)), (11, .sl false 1 (b.map strR)), (12, .pt 3 0 0), (14, .sc (.int .i64 k))],
                [(1, .ar 6 0 ((qs a b w i).map tN)), (2, .ar 1 0 ((qs a b w i).map tB)), (3, .bx (tN ((⟨fr, to, n, mix, false, Ss⟩ : Note), false)))], 4⟩)
              (fun k => a.length - k) 0 ⟨Nat.zero_le _, fun j x hj => by omega⟩ ?_ ?_
            · simp -dsimp (disch := first | omega | (simp only [List.length_cons, List.length_nil, List.length_map, List.length_append, List.length_take, List.length_drop, List.length_replicate, List.length_set, mkG_len] <;> omega) | fail) only [push_cast, if_pos, decide_eq_true, decide_eq_false, Nat.reduceAdd, Nat.reduceSub, Nat.reduceMul, Nat.reduceBEq, Nat.reduceEqDiff, Nat.reduceLT, Nat.reduceLeDiff, Int.reduceToNat, Int.reduceLE, Int.reduceLT, Int.reduceAdd, Int.reduceSub, Int.reduceMul, Int.reduceEq, Int.reduceNeg, ↓reduceIte, reduceCtorEq]
            rintro k ⟨hk, hq2⟩ ih2
            by_cases hkl : k < a.length
            · obtain ⟨x, hx1⟩ := ex_get hkl
              have hxm2 : x ∈ a := List.mem_of_getElem? hx1
              by_cases hin : inT fr to x = true
              rotate_left
              · have hno2 : ∀ y j, j < k + 1 → a[j]? = some y → inT fr to y = true → y ∈ b := fun y j hj hy hi => by
                  by_cases ej : j = k
                  · subst ej; rw [hx1] at hy; cases hy; exact (hin hi).elim
                  · exact hq2 j y (by omega) hy hi
                cases q1 : lts x fr with
                | true =>
                  (simp -dsimp (disch := first | omega | (simp only [hx1, q1, List.length_cons, List.length_nil, List.length_map, List.length_append, List.length_take, List.length_drop, List.length_replicate, List.length_set, mkG_len] <;> omega) | fail) only [push_cast, if_pos, decide_eq_true, decide_eq_false, hx1, q1, Nat.reduceAdd, Nat.reduceSub, Nat.reduceMul, Nat.reduceBEq, Nat.reduceEqDiff, Nat.reduceLT, Nat.reduceLeDiff, Int.reduceToNat, Int.reduceLE, Int.reduceLT, Int.reduceAdd, Int.reduceSub, Int.reduceMul, Int.reduceEq, Int.reduceNeg, ↓reduceIte, reduceCtorEq]) <;> (repeat (refine (aw_draw (by kernel_rfl)).2 ?_; simp -dsimp (disch := first | omega | (simp only [hx1, q1, List.length_cons, List.length_nil, List.length_map, List.length_append, List.length_take, List.length_drop, List.length_replicate, List.length_set, mkG_len] <;> omega) | fail) only [push_cast, if_pos, decide_eq_true, decide_eq_false, hx1, q1, Nat.reduceAdd, Nat.reduceSub, Nat.reduceMul, Nat.reduceBEq, Nat.reduceEqDiff, Nat.reduceLT, Nat.reduceLeDiff, Int.reduceToNat, Int.reduceLE, Int.reduceLT, Int.reduceAdd, Int.reduceSub, Int.reduceMul, Int.reduceEq, Int.reduceNeg, ↓reduceIte, reduceCtorEq]))
                  refine ih2 (k + 1) _ (by omega) ⟨hkl, fun j y hj hy hi => hno2 y j hj hy hi⟩ ?_
                  simp -dsimp (disch := first | omega | (simp only [wr_id, List.length_cons, List.length_nil, List.length_map, List.length_append, List.length_take, List.length_drop, List.length_replicate, List.length_set, mkG_len] <;> omega) | fail) only [push_cast, if_pos, decide_eq_true, decide_eq_false, wr_id, Nat.reduceAdd, Nat.reduceSub, Nat.reduceMul, Nat.reduceBEq, Nat.reduceEqDiff, Nat.reduceLT, Nat.reduceLeDiff, Int.reduceToNat, Int.reduceLE, Int.reduceLT, Int.reduceAdd, Int.reduceSub, Int.reduceMul, Int.reduceEq, Int.reduceNeg, ↓reduceIte, reduceCtorEq]
                | false =>
                  have hn1 : ¬ to = em := fun e => by unfold inT at hin; rw [q1] at hin; simp [e] at hin
                  have hn2 : lts x to = false := by
                    unfold inT at hin; rw [q1] at hin; simp [hn1] at hin; exact hin
                  have hn3 : ¬ to = ⟨#[]⟩ := hn1
                  (simp -dsimp (disch := first | omega | (simp only [hx1, q1, hn3, hn2, List.length_cons, List.length_nil, List.length_map, List.length_append, List.length_take, List.length_drop, List.length_replicate, List.length_set, mkG_len] <;> omega) | fail) only [push_cast, if_pos, decide_eq_true, decide_eq_false, hx1, q1, hn3, hn2, Nat.reduceAdd, Nat.reduceSub, Nat.reduceMul, Nat.reduceBEq, Nat.reduceEqDiff, Nat.reduceLT, Nat.reduceLeDiff, Int.reduceToNat, Int.reduceLE, Int.reduceLT, Int.reduceAdd, Int.reduceSub, Int.reduceMul, Int.reduceEq, Int.reduceNeg, ↓reduceIte, reduceCtorEq]) <;> (repeat (refine (aw_draw (by kernel_rfl)).2 ?_; simp -dsimp (disch := first | omega | (simp only [hx1, q1, hn3, hn2, List.length_cons, List.length_nil, List.length_map, List.length_append, List.length_take, List.length_drop, List.length_replicate, List.length_set, mkG_len] <;> omega) | fail) only [push_cast, if_pos, decide_eq_true, decide_eq_false, hx1, q1, hn3, hn2, Nat.reduceAdd, Nat.reduceSub, Nat.reduceMul, Nat.reduceBEq, Nat.reduceEqDiff, Nat.reduceLT, Nat.reduceLeDiff, Int.reduceToNat, Int.reduceLE, Int.reduceLT, Int.reduceAdd, Int.reduceSub, Int.reduceMul, Int.reduceEq, Int.reduceNeg, ↓reduceIte, reduceCtorEq]))
                  refine ih2 (k + 1) _ (by omega) ⟨hkl, fun j y hj hy hi => hno2 y j hj hy hi⟩ ?_
                  simp -dsimp (disch := first | omega | (simp only [wr_id, List.length_cons, List.length_nil, List.length_map, List.length_append, List.length_take, List.length_drop, List.length_replicate, List.length_set, mkG_len] <;> omega) | fail) only [push_cast, if_pos, decide_eq_true, decide_eq_false, wr_id, Nat.reduceAdd, Nat.reduceSub, Nat.reduceMul, Nat.reduceBEq, Nat.reduceEqDiff, Nat.reduceLT, Nat.reduceLeDiff, Int.reduceToNat, Int.reduceLE, Int.reduceLT, Int.reduceAdd, Int.reduceSub, Int.reduceMul, Int.reduceEq, Int.reduceNeg, ↓reduceIte, reduceCtorEq]
              have hnn := hin
              unfold inT at hnn
              simp only [Bool.and_eq_true, Bool.not_eq_true', Bool.or_eq_true, decide_eq_true_eq] at hnn
              obtain ⟨q1, q2⟩ := hnn
              by_cases hto : to = ⟨#[]⟩
              rotate_left
              focus
                have hto2 : ¬ to = em := hto
                have q3 : lts x to = true := by
                  rcases q2 with q2 | q2
                  · exact (hto2 q2).elim
                  · exact q2
                (simp -dsimp (disch := first | omega | (simp only [hx1, q1, hto, q3, List.length_cons, List.length_nil, List.length_map, List.length_append, List.length_take, List.length_drop, List.length_replicate, List.length_set, mkG_len] <;> omega) | fail) only [push_cast, if_pos, decide_eq_true, decide_eq_false, hx1, q1, hto, q3, Nat.reduceAdd, Nat.reduceSub, Nat.reduceMul, Nat.reduceBEq, Nat.reduceEqDiff, Nat.reduceLT, Nat.reduceLeDiff, Int.reduceToNat, Int.reduceLE, Int.reduceLT, Int.reduceAdd, Int.reduceSub, Int.reduceMul, Int.reduceEq, Int.reduceNeg, ↓reduceIte, reduceCtorEq]) <;> (repeat (refine (aw_draw (by kernel_rfl)).2 ?_; simp -dsimp (disch := first | omega | (simp only [hx1, q1, hto, q3, List.length_cons, List.length_nil, List.length_map, List.length_append, List.length_take, List.length_drop, List.length_replicate, List.length_set, mkG_len] <;> omega) | fail) only [push_cast, if_pos, decide_eq_true, decide_eq_false, hx1, q1, hto, q3, Nat.reduceAdd, Nat.reduceSub, Nat.reduceMul, Nat.reduceBEq, Nat.reduceEqDiff, Nat.reduceLT, Nat.reduceLeDiff, Int.reduceToNat, Int.reduceLE, Int.reduceLT, Int.reduceAdd, Int.reduceSub, Int.reduceMul, Int.reduceEq, Int.reduceNeg, ↓reduceIte, reduceCtorEq]))
              rotate_left
              focus
                subst hto
                (simp -dsimp (disch := first | omega | (simp only [hx1, q1, List.length_cons, List.length_nil, List.length_map, List.length_append, List.length_take, List.length_drop, List.length_replicate, List.length_set, mkG_len] <;> omega) | fail) only [push_cast, if_pos, decide_eq_true, decide_eq_false, hx1, q1, Nat.reduceAdd, Nat.reduceSub, Nat.reduceMul, Nat.reduceBEq, Nat.reduceEqDiff, Nat.reduceLT, Nat.reduceLeDiff, Int.reduceToNat, Int.reduceLE, Int.reduceLT, Int.reduceAdd, Int.reduceSub, Int.reduceMul, Int.reduceEq, Int.reduceNeg, ↓reduceIte, reduceCtorEq]) <;> (repeat (refine (aw_draw (by kernel_rfl)).2 ?_; simp -dsimp (disch := first | omega | (simp only [hx1, q1, List.length_cons, List.length_nil, List.length_map, List.length_append, List.length_take, List.length_drop, List.length_replicate, List.length_set, mkG_len] <;> omega) | fail) only [push_cast, if_pos, decide_eq_true, decide_eq_false, hx1, q1, Nat.reduceAdd, Nat.reduceSub, Nat.reduceMul, Nat.reduceBEq, Nat.reduceEqDiff, Nat.reduceLT, Nat.reduceLeDiff, Int.reduceToNat, Int.reduceLE, Int.reduceLT, Int.reduceAdd, Int.reduceSub, Int.reduceMul, Int.reduceEq, Int.reduceNeg, ↓reduceIte, reduceCtorEq]))
              all_goals
                refine callC (wIn b x hbl) ?_
                cases hxs : inL b x with
                | true =>
                  (simp -dsimp (disch := first | omega | (simp only [List.length_cons, List.length_nil, List.length_map, List.length_append, List.length_take, List.length_drop, List.length_replicate, List.length_set, mkG_len] <;> omega) | fail) only [push_cast, if_pos, decide_eq_true, decide_eq_false, Nat.reduceAdd, Nat.reduceSub, Nat.reduceMul, Nat.reduceBEq, Nat.reduceEqDiff, Nat.reduceLT, Nat.reduceLeDiff, Int.reduceToNat, Int.reduceLE, Int.reduceLT, Int.reduceAdd, Int.reduceSub, Int.reduceMul, Int.reduceEq, Int.reduceNeg, ↓reduceIte, reduceCtorEq]) <;> (repeat (refine (aw_draw (by kernel_rfl)).2 ?_; simp -dsimp (disch := first | omega | (simp only [List.length_cons, List.length_nil, List.length_map, List.length_append, List.length_take, List.length_drop, List.length_replicate, List.length_set, mkG_len] <;> omega) | fail) only [push_cast, if_pos, decide_eq_true, decide_eq_false, Nat.reduceAdd, Nat.reduceSub, Nat.reduceMul, Nat.reduceBEq, Nat.reduceEqDiff, Nat.reduceLT, Nat.reduceLeDiff, Int.reduceToNat, Int.reduceLE, Int.reduceLT, Int.reduceAdd, Int.reduceSub, Int.reduceMul, Int.reduceEq, Int.reduceNeg, ↓reduceIte, reduceCtorEq]))
                  refine ih2 (k + 1) _ (by omega) ⟨hkl, fun j y hj hy hi => ?_⟩ ?_
                  · by_cases ej : j = k
                    · subst ej; rw [hx1] at hy; cases hy; exact (inL_iff _ _).1 hxs
                    · exact hq2 j y (by omega) hy hi
                  · simp -dsimp (disch := first | omega | (simp only [wr_id, List.length_cons, List.length_nil, List.length_map, List.length_append, List.length_take, List.length_drop, List.length_replicate, List.length_set, mkG_len] <;> omega) | fail) only [push_cast, if_pos, decide_eq_true, decide_eq_false, wr_id, Nat.reduceAdd, Nat.reduceSub, Nat.reduceMul, Nat.reduceBEq, Nat.reduceEqDiff, Nat.reduceLT, Nat.reduceLeDiff, Int.reduceToNat, Int.reduceLE, Int.reduceLT, Int.reduceAdd, Int.reduceSub, Int.reduceMul, Int.reduceEq, Int.reduceNeg, ↓reduceIte, reduceCtorEq]
                | false =>
                  have hMt : M = true := by
                    rw [hM]
                    refine mixB_true ⟨i, _, hx, hex.2 ⟨e2, e3, x, hev x hxm2 hin, fun q => ?_⟩⟩
                    rw [(inL_iff _ _).2 q] at hxs; cases hxs
                  (simp -dsimp (disch := first | omega | (simp only [hMt, List.length_cons, List.length_nil, List.length_map, List.length_append, List.length_take, List.length_drop, List.length_replicate, List.length_set, mkG_len] <;> omega) | fail) only [push_cast, if_pos, decide_eq_true, decide_eq_false, hMt, Nat.reduceAdd, Nat.reduceSub, Nat.reduceMul, Nat.reduceBEq, Nat.reduceEqDiff, Nat.reduceLT, Nat.reduceLeDiff, Int.reduceToNat, Int.reduceLE, Int.reduceLT, Int.reduceAdd, Int.reduceSub, Int.reduceMul, Int.reduceEq, Int.reduceNeg, ↓reduceIte, reduceCtorEq]) <;> (repeat (refine (aw_draw (by kernel_rfl)).2 ?_; simp -dsimp (disch := first | omega | (simp only [hMt, List.length_cons, List.length_nil, List.length_map, List.length_append, List.length_take, List.length_drop, List.length_replicate, List.length_set, mkG_len] <;> omega) | fail) only [push_cast, if_pos, decide_eq_true, decide_eq_false, hMt, Nat.reduceAdd, Nat.reduceSub, Nat.reduceMul, Nat.reduceBEq, Nat.reduceEqDiff, Nat.reduceLT, Nat.reduceLeDiff, Int.reduceToNat, Int.reduceLE, Int.reduceLT, Int.reduceAdd, Int.reduceSub, Int.reduceMul, Int.reduceEq, Int.reduceNeg, ↓reduceIte, reduceCtorEq]))
            have hkl : k = a.length := by omega
            (simp -dsimp (disch := first | omega | (simp only [hkl, List.length_cons, List.length_nil, List.length_map, List.length_append, List.length_take, List.length_drop, List.length_replicate, List.length_set, mkG_len] <;> omega) | fail) only [push_cast, if_pos, decide_eq_true, decide_eq_false, hkl, Nat.reduceAdd, Nat.reduceSub, Nat.reduceMul, Nat.reduceBEq, Nat.reduceEqDiff, Nat.reduceLT, Nat.reduceLeDiff, Int.reduceToNat, Int.reduceLE, Int.reduceLT, Int.reduceAdd, Int.reduceSub, Int.reduceMul, Int.reduceEq, Int.reduceNeg, ↓reduceIte, reduceCtorEq]) <;> (repeat (refine (aw_draw (by kernel_rfl)).2 ?_; simp -dsimp (disch := first | omega | (simp only [hkl, List.length_cons, List.length_nil, List.length_map, List.length_append, List.length_take, List.length_drop, List.length_replicate, List.length_set, mkG_len] <;> omega) | fail) only [push_cast, if_pos, decide_eq_true, decide_eq_false, hkl, Nat.reduceAdd, Nat.reduceSub, Nat.reduceMul, Nat.reduceBEq, Nat.reduceEqDiff, Nat.reduceLT, Nat.reduceLeDiff, Int.reduceToNat, Int.reduceLE, Int.reduceLT, Int.reduceAdd, Int.reduceSub, Int.reduceMul, Int.reduceEq, Int.reduceNeg, ↓reduceIte, reduceCtorEq]))
            have hnm0 : ¬ mixT a b w ((⟨fr, to, n, mix, false, Ss⟩ : Note), false) := fun q => by
              obtain ⟨_, _, x, hx5, hx6⟩ := hex.1 q
              obtain ⟨hx7, hx8⟩ := hsub x hx5
              obtain ⟨j, hj⟩ := List.getElem?_of_mem hx7
              exact hx6 (hq2 j x (by have := idx_lt hj; omega) hj hx8)
      all_goals
        have hask : askN a b w ((⟨fr, to, n, mix, false, Ss⟩ : Note), false) = hearN a (⟨fr, to, n, mix, false, Ss⟩ : Note) w := rfl
        have hm : moreN a b w ((⟨fr, to, n, mix, false, Ss⟩ : Note), false) = (hearN a (⟨fr, to, n, mix, false, Ss⟩ : Note) w).1.map fun n => (n, true) := rfl
        rw [hask] at hk1 hk2
        refine callC (specHear a (⟨fr, to, n, mix, false, Ss⟩ : Note) w hal (by simp only; omega)) ?_
        generalize hearN a (⟨fr, to, n, mix, false, Ss⟩ : Note) w = R at *
        obtain ⟨m, x, y⟩ := R
        simp only at hk1 hk2 hm
        (simp -dsimp (disch := first | omega | (simp only [List.length_cons, List.length_nil, List.length_map, List.length_append, List.length_take, List.length_drop, List.length_replicate, List.length_set, mkG_len] <;> omega) | fail) only [push_cast, if_pos, decide_eq_true, decide_eq_false, Nat.reduceAdd, Nat.reduceSub, Nat.reduceMul, Nat.reduceBEq, Nat.reduceEqDiff, Nat.reduceLT, Nat.reduceLeDiff, Int.reduceToNat, Int.reduceLE, Int.reduceLT, Int.reduceAdd, Int.reduceSub, Int.reduceMul, Int.reduceEq, Int.reduceNeg, ↓reduceIte, reduceCtorEq]) <;> (repeat (refine (aw_draw (by kernel_rfl)).2 ?_; simp -dsimp (disch := first | omega | (simp only [List.length_cons, List.length_nil, List.length_map, List.length_append, List.length_take, List.length_drop, List.length_replicate, List.length_set, mkG_len] <;> omega) | fail) only [push_cast, if_pos, decide_eq_true, decide_eq_false, Nat.reduceAdd, Nat.reduceSub, Nat.reduceMul, Nat.reduceBEq, Nat.reduceEqDiff, Nat.reduceLT, Nat.reduceLeDiff, Int.reduceToNat, Int.reduceLE, Int.reduceLT, Int.reduceAdd, Int.reduceSub, Int.reduceMul, Int.reduceEq, Int.reduceNeg, ↓reduceIte, reduceCtorEq]))
        refine loop_ind (α := Nat × List Tn) (fun p => p.1 ≤ m.length ∧ p.2 = qs a b w i ++ (m.take p.1).map fun n => (n, true))
          (fun p => ⟨[(0, .sl false 1 (a.map strR)), (1, .sl false 1 (b.map strR)), (2, .sc (.int .i64 w)), (7, .ow 1 0 p.2.length), (8, .ow 2 0 p.2.length), (9, .sc (.int .i64 i)), (16, .ow 3 0 m.length), (19, .sc (.int .i64 p.1))],
            [(1, .ar 6 0 (p.2.map tN)), (2, .ar 1 0 (p.2.map tB)), (3, .fz 6 (m.map (noteC true)))], 4⟩)
          (fun p => m.length - p.1) (0, qs a b w i) ⟨Nat.zero_le _, by simp⟩ ?_ ?_
        · simp -dsimp (disch := first | omega | (simp only [List.length_cons, List.length_nil, List.length_map, List.length_append, List.length_take, List.length_drop, List.length_replicate, List.length_set, mkG_len] <;> omega) | fail) only [push_cast, if_pos, decide_eq_true, decide_eq_false, Nat.reduceAdd, Nat.reduceSub, Nat.reduceMul, Nat.reduceBEq, Nat.reduceEqDiff, Nat.reduceLT, Nat.reduceLeDiff, Int.reduceToNat, Int.reduceLE, Int.reduceLT, Int.reduceAdd, Int.reduceSub, Int.reduceMul, Int.reduceEq, Int.reduceNeg, ↓reduceIte, reduceCtorEq]
        rintro ⟨k, Q⟩ ⟨hk, hQ⟩ ih2
        replace hQ : Q = qs a b w i ++ (m.take k).map fun n => (n, true) := hQ
        replace hk : k ≤ m.length := hk
        have hQl : Q.length = (qs a b w i).length + k := by rw [hQ, List.length_append, List.length_map, List.length_take]; omega
        have hxR : (Q.map tB)[i]? = some (tB ((⟨fr, to, n, mix, false, Ss⟩ : Note), false)) := by
          rw [List.getElem?_map, hQ, List.getElem?_append_left h, hx]; rfl
        by_cases hkm : k < m.length
        · obtain ⟨n2, hn2⟩ := ex_get hkm
          have hnm : (m.map (noteC true))[k]? = some (noteC true n2) := by rw [List.getElem?_map, hn2]; rfl
          (simp -dsimp (disch := first | omega | (simp only [hnm, hxR, List.length_cons, List.length_nil, List.length_map, List.length_append, List.length_take, List.length_drop, List.length_replicate, List.length_set, mkG_len] <;> omega) | fail) only [push_cast, if_pos, decide_eq_true, decide_eq_false, hnm, hxR, Nat.reduceAdd, Nat.reduceSub, Nat.reduceMul, Nat.reduceBEq, Nat.reduceEqDiff, Nat.reduceLT, Nat.reduceLeDiff, Int.reduceToNat, Int.reduceLE, Int.reduceLT, Int.reduceAdd, Int.reduceSub, Int.reduceMul, Int.reduceEq, Int.reduceNeg, ↓reduceIte, reduceCtorEq]) <;> (repeat (refine (aw_draw (by kernel_rfl)).2 ?_; simp -dsimp (disch := first | omega | (simp only [hnm, hxR, List.length_cons, List.length_nil, List.length_map, List.length_append, List.length_take, List.length_drop, List.length_replicate, List.length_set, mkG_len] <;> omega) | fail) only [push_cast, if_pos, decide_eq_true, decide_eq_false, hnm, hxR, Nat.reduceAdd, Nat.reduceSub, Nat.reduceMul, Nat.reduceBEq, Nat.reduceEqDiff, Nat.reduceLT, Nat.reduceLeDiff, Int.reduceToNat, Int.reduceLE, Int.reduceLT, Int.reduceAdd, Int.reduceSub, Int.reduceMul, Int.reduceEq, Int.reduceNeg, ↓reduceIte, reduceCtorEq]))
          refine ih2 (k + 1, Q ++ [(n2, true)]) _ (by show m.length - (k + 1) < m.length - k; omega) ⟨hkm, by rw [hQ, take_step hn2, List.map_append, List.append_assoc]; rfl⟩ ?_
          simp -dsimp (disch := first | omega | (simp only [wr_id, List.map_append, List.length_append, List.length_cons, List.length_nil, Nat.zero_add, List.length_cons, List.length_nil, List.length_map, List.length_append, List.length_take, List.length_drop, List.length_replicate, List.length_set, mkG_len] <;> omega) | fail) only [push_cast, if_pos, decide_eq_true, decide_eq_false, wr_id, List.map_append, List.length_append, List.length_cons, List.length_nil, Nat.zero_add, Nat.reduceAdd, Nat.reduceSub, Nat.reduceMul, Nat.reduceBEq, Nat.reduceEqDiff, Nat.reduceLT, Nat.reduceLeDiff, Int.reduceToNat, Int.reduceLE, Int.reduceLT, Int.reduceAdd, Int.reduceSub, Int.reduceMul, Int.reduceEq, Int.reduceNeg, ↓reduceIte, reduceCtorEq]
        have hkm : k = m.length := by omega
        rw [hkm, List.take_length, ← hm, ← hqs] at hQ
        (simp -dsimp (disch := first | omega | (simp only [hkm, List.length_cons, List.length_nil, List.length_map, List.length_append, List.length_take, List.length_drop, List.length_replicate, List.length_set, mkG_len] <;> omega) | fail) only [push_cast, if_pos, decide_eq_true, decide_eq_false, hkm, Nat.reduceAdd, Nat.reduceSub, Nat.reduceMul, Nat.reduceBEq, Nat.reduceEqDiff, Nat.reduceLT, Nat.reduceLeDiff, Int.reduceToNat, Int.reduceLE, Int.reduceLT, Int.reduceAdd, Int.reduceSub, Int.reduceMul, Int.reduceEq, Int.reduceNeg, ↓reduceIte, reduceCtorEq]) <;> (repeat (refine (aw_draw (by kernel_rfl)).2 ?_; simp -dsimp (disch := first | omega | (simp only [hkm, List.length_cons, List.length_nil, List.length_map, List.length_append, List.length_take, List.length_drop, List.length_replicate, List.length_set, mkG_len] <;> omega) | fail) only [push_cast, if_pos, decide_eq_true, decide_eq_false, hkm, Nat.reduceAdd, Nat.reduceSub, Nat.reduceMul, Nat.reduceBEq, Nat.reduceEqDiff, Nat.reduceLT, Nat.reduceLeDiff, Int.reduceToNat, Int.reduceLE, Int.reduceLT, Int.reduceAdd, Int.reduceSub, Int.reduceMul, Int.reduceEq, Int.reduceNeg, ↓reduceIte, reduceCtorEq]))
        refine ih (i + 1) _ hlt ⟨⟨_, _, hst⟩, fun j t hj ht => ?_⟩ ?_
        · by_cases hji : j = i
          · subst hji
            rw [hx] at ht; cases ht
            exact hnm0
          · exact hno j t (by omega) ht
        · rw [hQ]
          simp -dsimp (disch := first | omega | (simp only [wr_id, List.length_cons, List.length_nil, List.length_map, List.length_append, List.length_take, List.length_drop, List.length_replicate, List.length_set, mkG_len] <;> omega) | fail) only [push_cast, if_pos, decide_eq_true, decide_eq_false, wr_id, Nat.reduceAdd, Nat.reduceSub, Nat.reduceMul, Nat.reduceBEq, Nat.reduceEqDiff, Nat.reduceLT, Nat.reduceLeDiff, Int.reduceToNat, Int.reduceLE, Int.reduceLT, Int.reduceAdd, Int.reduceSub, Int.reduceMul, Int.reduceEq, Int.reduceNeg, ↓reduceIte, reduceCtorEq]
  · have hi : i = (qs a b w i).length := by omega
    have hn : (qs a b w i)[i]? = none := by rw [List.getElem?_eq_none_iff]; omega
    have : M = false := by
      rw [hM]
      apply mixB_false
      rintro ⟨j, t, h1, h2⟩
      by_cases hj : j < i
      · exact hno j t hj h1 h2
      · have := (qs_done hn (j - i)).2
        rw [show i + (j - i) = j by omega, h1] at this
        cases this
    (simp -dsimp (disch := first | omega | (simp only [this, List.length_cons, List.length_nil, List.length_map, List.length_append, List.length_take, List.length_drop, List.length_replicate, List.length_set, mkG_len] <;> omega) | fail) only [push_cast, if_pos, decide_eq_true, decide_eq_false, this, Nat.reduceAdd, Nat.reduceSub, Nat.reduceMul, Nat.reduceBEq, Nat.reduceEqDiff, Nat.reduceLT, Nat.reduceLeDiff, Int.reduceToNat, Int.reduceLE, Int.reduceLT, Int.reduceAdd, Int.reduceSub, Int.reduceMul, Int.reduceEq, Int.reduceNeg, ↓reduceIte, reduceCtorEq]) <;> (repeat (refine (aw_draw (by kernel_rfl)).2 ?_; simp -dsimp (disch := first | omega | (simp only [this, List.length_cons, List.length_nil, List.length_map, List.length_append, List.length_take, List.length_drop, List.length_replicate, List.length_set, mkG_len] <;> omega) | fail) only [push_cast, if_pos, decide_eq_true, decide_eq_false, this, Nat.reduceAdd, Nat.reduceSub, Nat.reduceMul, Nat.reduceBEq, Nat.reduceEqDiff, Nat.reduceLT, Nat.reduceLeDiff, Int.reduceToNat, Int.reduceLE, Int.reduceLT, Int.reduceAdd, Int.reduceSub, Int.reduceMul, Int.reduceEq, Int.reduceNeg, ↓reduceIte, reduceCtorEq]))
end Go.Proofs.Ytkpgdbicefahjaa.Mx

/- The law FnExactDiffer runs. -/
namespace Go.Proofs.Ytkpgdbicefahjaa.Mx
set_option linter.all false
open Go Go.RowKit Go.Proofs
set_option linter.unusedSimpArgs false
def eith (a b : List Str) (l : List Str) : Prop := ∀ x ∈ l, x ∈ a ∨ x ∈ b
theorem eith_filter {a b l : List Str} (h : eith a b l) (p : Str → Bool) : eith a b (l.filter p) := fun x hx => h x (List.mem_filter.1 hx).1
theorem eith_app {a b l m : List Str} (h : eith a b l) (k : eith a b m) : eith a b (l ++ m) := fun x hx => (List.mem_append.1 hx).elim (h x) (k x)
theorem eith_nil (a b : List Str) : eith a b [] := fun x hx => by cases hx
theorem ask_eith {a b : List Str} {w : Int} (t : Tn) (ht : eith a b t.1.S) : (∀ n ∈ (askN a b w t).1, eith a b n.S) ∧ eith a b (askN a b w t).2.1 ∧ eith a b (askN a b w t).2.2 := by
  obtain ⟨l, hl⟩ : ∃ l, l = (bif t.2 then b else a) := ⟨_, rfl⟩
  have hs : eith a b l := by
    rw [hl]; cases t.2
    · exact fun x hx => .inl hx
    · exact fun x hx => .inr hx
  unfold askN
  rw [← hl]
  have h1 : eith a b (thr l t.1.fr t.1.to) := eith_filter hs _
  have h2 : eith a b (minusS t.1.S (thr l t.1.fr t.1.to)) := eith_filter ht _
  have h3 : eith a b (minusS (thr l t.1.fr t.1.to) t.1.S) := eith_filter h1 _
  have ht2 : ∀ fr to, eith a b (tellN l fr to w).S := fun fr to => by rw [tell_S]; exact eith_nil a b
  have h0 := eith_nil a b
  unfold hearN
  split
  · exact ⟨by simp, h0, h0⟩
  split
  · exact ⟨by simp, h2, h3⟩
  split
  · exact ⟨by simp, h0, h0⟩
  split
  · exact ⟨by simpa using h1, h0, h0⟩
  · refine ⟨fun n hn => ?_, h0, h0⟩
    rcases List.mem_cons.1 hn with rfl | hn
    · exact ht2 _ _
    · rw [List.mem_singleton.1 hn]; exact ht2 _ _
theorem tk_fin {a b : List Str} {w : Int} (ha : setB a w = true) (hb : setB b w = true) {R : Nat × List Str × List Str} : ∀ (n : Nat) (q : List Tn) (i : Nat) (A B : List Str), costs a b (q.drop i) ≤ n → TkI a b w R q i A B → (∀ t ∈ q, eith a b t.1.S) → eith a b A → eith a b B →
    R.2.1.length ≤ 1999000 ∧ R.2.2.length ≤ 1999000 ∧ eith a b R.2.1 ∧ eith a b R.2.2 := by
  intro n
  induction n with
  | zero =>
    intro q i A B hc hI hq hA hB
    have := costs_len a b (q.drop i)
    have hle := hI.le
    rw [List.length_drop] at this
    have hi : i = q.length := by omega
    subst hi
    rw [hI.done]
    have := hI.len
    have := hI.la
    have := hI.lb
    exact ⟨by simp only; omega, by simp only; omega, hA, hB⟩
  | succ n ih =>
    intro q i A B hc hI hq hA hB
    have hle := hI.le
    by_cases h : i < q.length
    · obtain ⟨t, hx⟩ := ex_get h
      obtain ⟨hst, hlt⟩ := hI.step ha hb hx
      obtain ⟨e1, e2, e3⟩ := ask_eith (w := w) t (hq t (List.mem_of_getElem? hx))
      refine ih _ _ _ _ (by omega) hst (fun x hx => ?_) (eith_app hA ?_) (eith_app hB ?_)
      · rcases List.mem_append.1 hx with q' | q'
        · exact hq x q'
        · unfold moreN at q'
          obtain ⟨m, hm, rfl⟩ := List.mem_map.1 q'
          exact e1 m hm
      · unfold onA; cases t.2 <;> assumption
      · unfold onB; cases t.2 <;> assumption
    · have hi : i = q.length := by omega
      subst hi
      rw [hI.done]
      have := hI.len
      have := hI.la
      have := hI.lb
      exact ⟨by simp only; omega, by simp only; omega, hA, hB⟩
end Go.Proofs.Ytkpgdbicefahjaa.Mx

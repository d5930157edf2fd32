/- A machine over values for Go functions, proved sound, and functions run on it: texts F50, F46, F51, F52, F55, F56, V10, V13. -/
import Derived.Test.YtkkmgjhfjhcdmaaGreatDoorShB
import Derived.Test.YtkkmgjhfjhcdmaaGreatDoorFnFetchXai
import Derived.Test.YtkkmgjhfjhcdmaaGreatDoorFnFetchXaj
import Derived.Test.YtkkmgjhfjhcdmaaGreatDoorFnFetchXak
import Derived.Test.YtkkmgjhfjhcdmaaGreatDoorFnFetchXal
import Derived.Test.YtkkmgjhfjhcdmaaGreatDoorFnFetchXam
set_option linter.all false
namespace Go.Proofs.YtkkmgjhfjhcdmaaGreatDoor.Mx
open Go Go.RowKit Go.Proofs
theorem rF50_0 {p q : Prop} (k : q) (h : p = q := by conv => lhs; simp -dsimp (disch := first | omega | (simp only [zF, seg_tk, seg_dr, wr_id, rmAt, List.map_append, LR] <;> omega) | fail) only [push_cast, zF, seg_tk, seg_dr, wr_id, rmAt, List.map_append, simprocAttr, -Nat.reduceSubDiff]) : p := h.mpr k
theorem rF50_1 {p q : Prop} (k : q) (h : p = q := by conv => lhs; simp -dsimp (disch := first | omega | (simp only [zF, set_item, LR] <;> omega) | fail) only [push_cast, zF, set_item, simprocAttr, -Nat.reduceSubDiff]) : p := h.mpr k
theorem rF50_2 {p q : Prop} (k : q) (h : p = q := by conv => lhs; simp -dsimp (disch := first | omega | (simp only [zF, seg_tk, seg_dr, insAt, List.map_append, List.map_cons, LR] <;> omega) | fail) only [push_cast, zF, seg_tk, seg_dr, insAt, List.map_append, List.map_cons, simprocAttr, -Nat.reduceSubDiff]) : p := h.mpr k
theorem rF50_3 {p q : Prop} (k : q) (h : p = q := by conv => lhs; simp -dsimp (disch := first | omega | (simp only [zF, bestF, LR] <;> omega) | fail) only [push_cast, zF, bestF, simprocAttr, -Nat.reduceSubDiff]) : p := h.mpr k
theorem seg_tk {α : Type} (l : List α) (f : α → Row) (n : Nat) : seg (l.map f) 0 n = (l.take n).map f := by simp [seg, List.map_take]
theorem seg_dr {α : Type} (l : List α) (f : α → Row) (a n : Nat) (h : l.length ≤ a + n) : seg (l.map f) a n = (l.drop a).map f := by
  unfold seg; rw [List.take_of_length_le (by simp; omega), List.map_drop]
def awayF (s : Store) (N : List Str) : Store × Bool := if bestF s.w N s.I s.I.length < 0 then (s, false) else ({ s with I := rmAt s.I (bestF s.w N s.I s.I.length).toNat }, true)
def E69 : Env := { T := T0, kp := look [(0, [0, 1]), (1, [1, 2, 4]), (2, [1, 2, 4, 6]), (3, [1, 2, 4, 6, 7]), (4, [1, 2, 4, 6, 7]), (5, [1, 2, 4, 6, 7]), (6, [1, 2, 4, 7]), (7, [2, 4, 6]), (8, [2, 4]), (9, [2, 4, 6]), (10, [2, 4])], dp := look2 [(5, [[], [], [1], [], [1, 2, 3], [1, 2, 3, 4], [1, 2, 3, 4, 5], [], [7], [1, 2, 3, 4, 5, 6, 7, 8], [0, 1, 2, 3, 4, 5, 6, 7, 8, 9], [0, 1, 2, 3, 4, 5, 6, 7, 8, 9, 10], [0, 1, 2, 3, 4, 5, 6, 7, 8, 9, 10, 11], [0, 1, 2, 3, 4, 5, 6, 7, 8, 9, 10, 11, 12], [0, 1, 2, 3, 4, 5, 6, 7, 8, 9, 10, 11, 12, 13], [0, 1, 2, 3, 4, 5, 6, 7, 8, 9, 10, 11, 12, 13, 14], [0, 1, 2, 3, 4, 5, 6, 7, 8, 9, 10, 11, 12, 13, 14, 15], [0, 1, 2, 3, 4, 5, 6, 7, 8, 9, 10, 11, 12, 13, 14, 15, 16], [0, 1, 2, 3, 4, 5, 6, 7, 8, 9, 10, 11, 12, 13, 14, 15], [0, 1, 2, 3, 4, 5, 6, 7, 8, 9, 10, 11, 12, 13, 14, 15, 16, 17, 18], [0, 1, 2, 3, 4, 5, 6, 7, 8, 9, 10, 11, 12, 13, 14, 15, 16, 17, 18, 19], [0, 1, 2, 3, 4, 5, 6, 7, 8, 9, 10, 11, 12, 13, 14, 15, 16, 17, 18, 19, 20], [0, 1, 2, 3, 4, 5, 6, 7, 8, 9, 10, 11, 12, 13, 14, 15], [0, 1, 2, 3, 4, 5, 6, 7, 8, 9, 10, 11, 12, 13, 14, 15, 22], [0, 1, 2, 3, 4, 5, 6, 7, 8, 9, 10, 11, 12, 13, 14, 15], [0, 1, 2, 3, 4, 5, 6, 7, 8, 9, 10, 11, 12, 13, 14, 15, 22, 23, 24], [0, 1, 2, 3, 4, 5, 6, 7, 8, 9, 10, 11, 12, 13, 14, 15, 22, 23, 24, 25], [0, 1, 2, 3, 4, 5, 6, 7, 8, 9, 10, 11, 12, 13, 14, 15, 22, 23, 24, 25, 26], [0, 1, 2, 3, 4, 5, 6, 7, 8, 9, 10, 11, 12, 13, 14, 15, 16, 17, 18, 19, 20, 21, 22, 23, 24, 25, 26, 27], [0, 1, 2, 3, 4, 5, 6, 7, 8, 9, 10, 11, 12, 13, 14, 15, 16, 17, 18, 19, 20, 21, 22, 23, 24, 25, 26, 27, 28], [0, 1, 2, 3, 4, 5, 6, 7, 8, 9, 10, 11, 12, 13, 14, 15, 16, 17, 18, 19, 20, 21, 22, 23, 24, 25, 26, 27, 28, 29]]), (9, [[], [], [1], [], [1, 2, 3], [0, 1, 2, 3, 4], [], [6], [], [8], [6, 7, 8, 9], [0, 1, 2, 3, 4, 5, 6, 7, 8, 9, 10], [0, 1, 2, 3, 4, 5, 6, 7, 8, 9, 10, 11], [0, 1, 2, 3, 4, 5, 6, 7, 8, 9, 10, 11, 12]])] }
attribute [local push_cast] E69
set_option maxRecDepth 20000 in
set_option maxHeartbeats 4000000 in
theorem l4Away (s : Store) (N : List Str) (hs : okStore s) (hN : N.length ≤ 2097152) : Does Tryz.prog 69 [.ag (storeC true s), .sl false 1 (N.map strR)] (.tu [.ag (storeC true (awayF s N).1), .sc (.bool (awayF s N).2)], []) := by
  refine does_of (E := E69) (rs := [.cell 4 26, .tmp 5]) (lent := []) tOk rfl Tryz.func69 rfl (by decide) rfl rfl (Nat.le_of_ble_eq_true rfl) (Nat.le_of_ble_eq_true rfl) ?_
  obtain ⟨M, hM⟩ : ∃ M, M = awayF s N := ⟨_, rfl⟩
  rw [← hM]
  unfold awayF at hM
  have hl := hs.1.1
  ((refine go0 ?_ <;> repeat (refine dr ?_; refine go0 ?_)) <;> try exact nop)
  refine loop_ind (α := Nat) (fun i => i ≤ s.I.length)
    (fun i => ⟨[(1, .sl false 1 (N.map strR)), (2, .pt 1 0 0), (4, .pt 4 0 0), (6, .sc (.int .i64 (bestF s.w N s.I i))), (7, .sc (.int .i64 i))], [(1, .bx [.sc (.int .i64 s.w), .sc (.int .i64 s.r), .ow 2 0 s.I.length, .ow 3 0 s.P.length]), (2, .ar 2 0 (s.I.map (itemC true))), (3, .ar 1 0 (s.P.map strR)), (4, .bx [.sc (.int .i64 0), .sc (.int .i64 0), .ow 5 0 0, .ow 6 0 0]), (5, .ar 2 0 []), (6, .ar 1 0 [])], 7⟩) (fun i => s.I.length - i) 0 (Nat.zero_le _) ?_ ?_
  · ((refine rF50_3 ?_) <;> try exact nop)
  intro i hi ih
  by_cases h : i < s.I.length
  · obtain ⟨x, hx⟩ := ex_get h
    have hxt : x.t.size ≤ 2097152 := hs.1.2 x (List.mem_of_getElem? hx)
    have hst : bestF s.w N s.I (i + 1) = if inL N (sumS x.t s.w) = false ∧ (bestF s.w N s.I i < 0 ∨ x.u < usedAt s.I (bestF s.w N s.I i)) then (i : Int) else bestF s.w N s.I i := by rw [bestF, hx]
    have hr := best_rng s.w N s.I i
    obtain ⟨B, hB⟩ : ∃ B, B = bestF s.w N s.I i := ⟨_, rfl⟩
    rw [← hB] at hst hr ⊢
    (have zF := an h hx; (refine go0 ?_ <;> repeat (refine dr ?_; refine go0 ?_)) <;> first | exact nop | clear zF)
    refine callC (specSum x.t s.w (by omega)) ?_
    (have zF := an h hx; (refine go0 ?_ <;> repeat (refine dr ?_; refine go0 ?_)) <;> first | exact nop | clear zF)
    refine callC (l2In N (sumS x.t s.w) hN) ?_
    cases hin : inL N (sumS x.t s.w) with
    | true =>
      rw [if_neg (by rw [hin]; simp)] at hst
      (have zF := an h hx; (refine go0 ?_ <;> repeat (refine dr ?_; refine go0 ?_)) <;> first | exact nop | clear zF)
      refine ih (i + 1) _ (by omega) h ?_
      rw [hst]
      ((refine go1 ?_) <;> try exact nop)
    | false =>
    by_cases hB0 : B < 0
    · rw [if_pos ⟨hin, .inl hB0⟩] at hst
      (have zF := an h (an hx hB0); (refine go0 ?_ <;> repeat (refine dr ?_; refine go0 ?_)) <;> first | exact nop | clear zF)
      refine ih (i + 1) _ (by omega) h ?_
      rw [hst]
      ((refine go1 ?_) <;> try exact nop)
    obtain ⟨k, hk⟩ : ∃ k : Nat, B = k := ⟨B.toNat, by omega⟩
    rw [hk] at hst hB0 hr ⊢
    obtain ⟨y, hy⟩ := ex_get (show k < s.I.length by omega)
    have hua : usedAt s.I (k : Int) = y.u := by unfold usedAt; rw [Int.toNat_natCast, hy]
    rw [hua] at hst
    by_cases hlt : x.u < y.u
    · rw [if_pos ⟨hin, .inr hlt⟩] at hst
      (have zF := an h (an hx (an hy (an hB0 hlt))); (refine go0 ?_ <;> repeat (refine dr ?_; refine go0 ?_)) <;> first | exact nop | clear zF)
      refine ih (i + 1) _ (by omega) h ?_
      rw [hst]
      ((refine go1 ?_) <;> try exact nop)
    · rw [if_neg (by rintro ⟨_, q | q⟩; exact hB0 q; exact hlt q)] at hst
      (have zF := an h (an hx (an hy (an hB0 hlt))); (refine go0 ?_ <;> repeat (refine dr ?_; refine go0 ?_)) <;> first | exact nop | clear zF)
      refine ih (i + 1) _ (by omega) h ?_
      rw [hst]
      ((refine go1 ?_) <;> try exact nop)
  · have hi : i = s.I.length := by omega
    subst hi
    have hr := best_rng s.w N s.I s.I.length
    obtain ⟨B, hB⟩ : ∃ B, B = bestF s.w N s.I s.I.length := ⟨_, rfl⟩
    rw [← hB] at hr hM ⊢
    by_cases hB0 : B < 0
    · rw [if_pos hB0] at hM
      subst hM
      (have zF := hB0; (refine go0 ?_ <;> repeat (refine dr ?_; refine go0 ?_)) <;> first | exact nop | clear zF)
    obtain ⟨k, hk⟩ : ∃ k : Nat, B = k := ⟨B.toNat, by omega⟩
    rw [if_neg hB0] at hM
    rw [hk, Int.toNat_natCast] at hM
    rw [hk] at hB0 hr ⊢
    subst hM
    have e1 : ((k : Int) + 1).toNat = k + 1 := by omega
    (have zF := an hB0 e1; (refine rF50_0 ?_ <;> repeat (refine dr ?_; refine rF50_0 ?_)) <;> first | exact nop | clear zF)
theorem valid_P {s : Store} (hv : validSt s = true) : s.P.length ≤ 10 := by
  unfold validSt at hv
  simp only [Bool.and_eq_true, decide_eq_true_eq] at hv
  exact hv.1.1.1.2
theorem needL_len {s : Store} (hP : s.P.length ≤ 10) : (needL s).length ≤ 3760 := by
  have h1 := foldS_len (nmsL s) []
  have h2 := nms_len s s.P
  unfold needL
  unfold nmsL at h1 ⊢
  rw [List.length_nil] at h1
  omega
theorem set_item (I : List Item) (k : Nat) (t : Str) (u : Int) : (I.map (itemC true)).set k [.sc (.string t), .sc (.int .i64 u)] = (I.set k ⟨t, u⟩).map (itemC true) := by
  rw [List.map_set]; rfl
def E14 : Env := { T := T0, kp := look [(0, [0, 1, 2]), (1, [1, 2, 3, 6]), (2, [6]), (3, [1, 2, 3, 6]), (4, [1, 2, 3, 6, 8]), (5, [1, 2, 3, 6, 8, 9]), (6, [1, 2, 3, 6, 8, 9, 10]), (7, [1, 2, 6, 8, 10]), (8, [6]), (9, [2, 6, 8, 10]), (10, [6, 8]), (11, [1, 2, 3, 6, 8, 9]), (12, [1, 2, 3, 6, 8, 9, 11]), (13, [1, 2, 3, 6, 8, 9, 11]), (14, [1, 2, 3, 6, 8, 9, 11, 12, 13]), (15, [6]), (16, [1, 2, 3, 6, 8, 9, 11, 12]), (17, [1, 2, 3, 6, 8, 9]), (18, [1, 2, 3, 6, 8, 9, 14]), (19, [1, 2, 3, 6, 8, 9, 14]), (20, [1, 2, 6, 8, 14]), (21, [6, 8])], dp := look2 [(12, [[], [0], [], [2], [0, 1, 2, 3], [], [5], [0, 1, 2, 3, 4, 5, 6], [0, 1, 2, 3, 4, 5, 6, 7], [0, 1, 2, 3, 4, 5, 6, 7, 8], [0, 1, 2, 3, 4, 5, 6, 7, 8, 9], [0, 1, 2, 3, 4, 5, 6, 7, 8, 9, 10], [0, 1, 2, 3, 4, 5, 6, 7, 8, 9, 10, 11], [0, 1, 2, 3, 4, 5, 6, 7, 8, 9, 10, 11, 12]]), (18, [[], [], [1], [1, 2], [0, 1, 2, 3], [0, 1, 2, 3, 4], [0, 1, 2, 3, 4, 5], [0, 1, 2, 3, 4, 5, 6], [0, 1, 2, 3, 4, 5], [0, 1, 2, 3, 4, 5, 6, 7, 8], [0, 1, 2, 3, 4, 5, 6, 7, 8, 9], [0, 1, 2, 3, 4, 5, 6, 7, 8, 9, 10], [0, 1, 2, 3, 4, 5], [0, 1, 2, 3, 4, 5, 12], [0, 1, 2, 3, 4, 5, 6, 7, 8, 9, 10, 11, 12, 13], [0, 1, 2, 3, 4, 5], [0, 1, 2, 3, 4, 5, 6, 7, 8, 9, 10, 11, 12, 13, 14, 15], [0, 1, 2, 3, 4, 5, 6, 7, 8, 9, 10, 11, 12, 13, 14, 15, 16]]), (20, [[], [], [1], [], [1, 2, 3], [0, 1, 2, 3, 4], [], [], [6, 7], [6, 7, 8], [0, 1, 2, 3, 4, 5, 6, 7, 8, 9], [], [11], [], [11, 12, 13], [0, 1, 2, 3, 4, 5, 6, 7, 8, 9, 10, 11, 12, 13, 14], [0, 1, 2, 3, 4, 5, 6, 7, 8, 9, 10, 11, 12, 13, 14, 15], [0, 1, 2, 3, 4, 5, 6, 7, 8, 9, 10, 11, 12, 13, 14, 15, 16]])], md := look3 [(13, 2, [2, 0])] }
attribute [local push_cast] E14
set_option maxRecDepth 20000 in
set_option maxHeartbeats 4000000 in
theorem specPut (s : Store) (t : Str) (now : Int) (hs : okStore s) (ht : t.size ≤ 2097152) : Does Tryz.prog 14 [.ag (storeC false s), .sc (.string t), .sc (.int .i64 now)] (.tu [.ag (storeC true (putF s t now).1), .sc (.int .i64 (putF s t now).2)], []) := by
  refine does_of (E := E14) (rs := [.cell 6 26, .tmp 7]) (lent := []) tOk rfl Tryz.func14 rfl (by decide) rfl rfl (Nat.le_of_ble_eq_true rfl) (Nat.le_of_ble_eq_true rfl) ?_
  obtain ⟨M, hM⟩ : ∃ M, M = putF s t now := ⟨_, rfl⟩
  rw [← hM]
  unfold putF at hM
  ((refine go0 ?_ <;> repeat (refine dr ?_; refine go0 ?_)) <;> try exact nop)
  refine callC (specValidStore s hs) ?_
  cases hv : validSt s with
  | false =>
    rw [hv, Bool.false_and, Bool.false_and, if_pos rfl] at hM
    subst hM
    ((refine go0 ?_ <;> repeat (refine dr ?_; refine go0 ?_)) <;> try exact nop)
    rfl
  | true =>
  ((refine go0 ?_ <;> repeat (refine dr ?_; refine go0 ?_)) <;> try exact nop)
  refine callC (l1In ..) ?_
  cases hz : inB t.size 1 7000 with
  | false =>
    rw [hz, Bool.and_false, Bool.false_and, if_pos rfl] at hM
    subst hM
    ((refine go0 ?_ <;> repeat (refine dr ?_; refine go0 ?_)) <;> try exact nop)
    rfl
  | true =>
  ((refine go0 ?_ <;> repeat (refine dr ?_; refine go0 ?_)) <;> try exact nop)
  refine callC (l1In ..) ?_
  cases hn : inB now 0 1000000 with
  | false =>
    rw [hn, Bool.and_false, if_pos rfl] at hM
    subst hM
    ((refine go0 ?_ <;> repeat (refine dr ?_; refine go0 ?_)) <;> try exact nop)
    rfl
  | true =>
  rw [if_neg (by rw [hv, hz, hn]; simp)] at hM
  have hP := valid_P hv
  ((refine go0 ?_ <;> repeat (refine dr ?_; refine go0 ?_)) <;> try exact nop)
  refine callC (l4Copy s hs) ?_
  ((refine go0 ?_ <;> repeat (refine dr ?_; refine go0 ?_)) <;> try exact nop)
  refine callC (specSum t s.w (by omega)) ?_
  obtain ⟨u, hu⟩ : ∃ u, u = sumS t s.w := ⟨_, rfl⟩
  rw [← hu] at hM ⊢
  ((refine go0 ?_ <;> repeat (refine dr ?_; refine go0 ?_)) <;> try exact nop)
  refine callC (l4At s u hs) ?_
  by_cases hat : 0 ≤ atI s.w u s.I
  · rw [if_pos hat] at hM
    obtain ⟨i, x, h1, h2, _⟩ := at_get hat
    have hil := (List.getElem?_eq_some_iff.1 h2).1
    rw [textAt_some h1 h2, h1, Int.toNat_natCast] at hM
    rw [h1]
    by_cases he : x.t = t
    · rw [if_pos he] at hM
      subst hM
      (have zF := an h2 he; (refine rF50_1 ?_ <;> repeat (refine dr ?_; refine rF50_1 ?_)) <;> first | exact nop | clear zF)
    · rw [if_neg he] at hM
      subst hM
      (have zF := an h2 he; (refine go0 ?_ <;> repeat (refine dr ?_; refine go0 ?_)) <;> first | exact nop | clear zF)
      rfl
  rw [if_neg hat] at hM
  (have zF := hat; (refine go0 ?_ <;> repeat (refine dr ?_; refine go0 ?_)) <;> first | exact nop | clear zF)
  refine callC (l4Needed s hs hP) ?_
  have hNl := needL_len hP
  rw [show (nmsL s).foldl addS [] = needL s from rfl]
  generalize needL s = N at hM hNl ⊢
  ((refine go0 ?_ <;> repeat (refine dr ?_; refine go0 ?_)) <;> try exact nop)
  obtain ⟨E, hE⟩ : ∃ E, E = evF s.w s.r N t.size s.I := ⟨_, rfl⟩
  rw [← hE] at hM
  refine loop_ind (α := List Item) (fun J => okL okItem J ∧ evF s.w s.r N t.size J = E)
    (fun J => ⟨[(1, .sc (.string t)), (2, .sc (.int .i64 now)), (3, .pt 1 0 0), (6, .pt 2 0 0), (8, .pt 5 0 0), (9, .sc (.string u)), (11, .ow 8 0 N.length)],
      [(1, .bx (storeC false s)), (2, .bx [.sc (.int .i64 0), .sc (.int .i64 0), .ow 3 0 0, .ow 4 0 0]), (3, .ar 2 0 []), (4, .ar 1 0 []), (5, .bx [.sc (.int .i64 s.w), .sc (.int .i64 s.r), .ow 6 0 J.length, .ow 7 0 s.P.length]), (6, .ar 2 0 (J.map (itemC true))), (7, .ar 1 0 (s.P.map strR)), (8, .ar 1 0 (N.map strR))], 9⟩) (fun J => J.length) s.I ⟨hs.1, hE.symm⟩ ?_ ?_
  · ((refine go0 ?_) <;> try exact nop)
  rintro J ⟨hJ, hEJ⟩ ih
  have hsJ : okStore { s with I := J } := ⟨hJ, hs.2⟩
  have hJl := hJ.1
  have hb := bytes_le hJ
  have hb0 := bytes_nn J
  have hby := l4Bytes { s with I := J } hsJ
  have haw := l4Away { s with I := J } N hsJ (by omega)
  simp only at hby
  unfold awayF at haw
  simp only at haw
  rw [evF] at hEJ
  by_cases hc : s.r < bytes J + t.size ∨ 1000 ≤ J.length
  · rw [if_pos hc] at hEJ
    have hr := best_rng s.w N J J.length
    obtain ⟨B, hB⟩ : ∃ B, B = bestF s.w N J J.length := ⟨_, rfl⟩
    rw [← hB] at hEJ hr haw
    have two : (s.r < bytes J + t.size ∧ s.r < bytes J + t.size) ∨ (¬ s.r < bytes J + t.size ∧ 1000 ≤ J.length) := by omega
    rcases two with ⟨h1, h2⟩ | ⟨h1, h2⟩
    all_goals
      ((refine go1 ?_ <;> repeat (refine dr ?_; refine go1 ?_)) <;> try exact nop)
      refine callC hby ?_
      ((refine go1 ?_ <;> repeat (refine dr ?_; refine go1 ?_)) <;> try exact nop)
      refine callC haw ?_
      by_cases hB0 : B < 0
      · rw [if_neg (by omega)] at hEJ
        rw [← hEJ] at hM
        rw [if_pos hB0]
        subst hM
        ((refine go0 ?_ <;> repeat (refine dr ?_; refine go0 ?_)) <;> try exact nop)
        rfl
      · rw [if_pos (by omega)] at hEJ
        rw [if_neg hB0]
        have hrl := rmAt_len (l := J) (i := B.toNat) (by omega)
        ((refine go0 ?_ <;> repeat (refine dr ?_; refine go0 ?_)) <;> try exact nop)
        refine ih (rmAt J B.toNat) _ (by omega) ⟨⟨by omega, fun a ha => hJ.2 a (by unfold rmAt at ha; rcases List.mem_append.1 ha with q | q; exact List.mem_of_mem_take q; exact List.mem_of_mem_drop q)⟩, hEJ⟩ ?_
        ((refine go0 ?_) <;> try exact nop)
  · rw [if_neg hc] at hEJ
    rw [← hEJ] at hM
    simp only at hM
    have h1 : ¬ s.r < bytes J + t.size := by omega
    have h2 : ¬ 1000 ≤ J.length := by omega
    clear ih hEJ hE haw
    ((refine go1 ?_ <;> repeat (refine dr ?_; refine go1 ?_)) <;> try exact nop)
    refine callC hby ?_
    ((refine go1 ?_ <;> repeat (refine dr ?_; refine go1 ?_)) <;> try exact nop)
    have hkr := rk_le (sumsI s.w J) u
    have hsl : (sumsI s.w J).length = J.length := by unfold sumsI; rw [List.length_map]
    obtain ⟨r, hr⟩ : ∃ r, r = rk (sumsI s.w J) u := ⟨_, rfl⟩
    refine loop_ind (α := Nat) (fun k => k ≤ rk (sumsI s.w J) u)
      (fun k => ⟨[(1, .sc (.string t)), (2, .sc (.int .i64 now)), (3, .pt 1 0 0), (6, .pt 2 0 0), (8, .pt 5 0 0), (9, .sc (.string u)), (14, .sc (.int .i64 k))],
        [(1, .bx (storeC false s)), (2, .bx [.sc (.int .i64 0), .sc (.int .i64 0), .ow 3 0 0, .ow 4 0 0]), (3, .ar 2 0 []), (4, .ar 1 0 []), (5, .bx [.sc (.int .i64 s.w), .sc (.int .i64 s.r), .ow 6 0 J.length, .ow 7 0 s.P.length]), (6, .ar 2 0 (J.map (itemC true))), (7, .ar 1 0 (s.P.map strR))], 8⟩) (fun k => J.length - k) 0 (Nat.zero_le _) ?_ ?_
    · ((refine go0 ?_) <;> try exact nop)
    intro k hk ih
    have fin : k = rk (sumsI s.w J) u → M = ({ s with I := insAt J k ⟨t, now⟩ }, 0) := fun q => by rw [hM, ← q]
    have e1 : J.length = k + (J.length - k) := by omega
    by_cases h : k < J.length
    · obtain ⟨x, hx⟩ := ex_get h
      have hxt : x.t.size ≤ 2097152 := hJ.2 x (List.mem_of_getElem? hx)
      have hxs : (sumsI s.w J)[k]? = some (sumS x.t s.w) := by unfold sumsI; rw [List.getElem?_map, hx]; rfl
      (have zF := an h hx; (refine go0 ?_ <;> repeat (refine dr ?_; refine go0 ?_)) <;> first | exact nop | clear zF)
      refine callC (specSum x.t s.w (by omega)) ?_
      cases e : lts (sumS x.t s.w) u with
      | true =>
        have := rk_step hk hxs e
        (have zF := an h (an hx e); (refine go0 ?_ <;> repeat (refine dr ?_; refine go0 ?_)) <;> first | exact nop | clear zF)
        refine ih (k + 1) _ (by omega) this ?_
        ((refine go1 ?_) <;> try exact nop)
      | false =>
        have hkk : k = rk (sumsI s.w J) u := by
          rcases Nat.lt_or_eq_of_le hk with q | q
          · obtain ⟨y, hy, hy2⟩ := rk_all q
            rw [hxs] at hy; cases hy; rw [e] at hy2; cases hy2
          · exact q
        have hM := fin hkk
        subst hM
        (have zF := an h (an hx e); (refine rF50_2 ?_ <;> repeat (refine dr ?_; refine rF50_2 ?_)) <;> first | exact nop | clear zF)
        simp only [List.append_assoc, List.cons_append, List.nil_append]
    · have hkk : k = rk (sumsI s.w J) u := by omega
      have hM := fin hkk
      subst hM
      have tk : J.take k = J := List.take_of_length_le (by omega)
      (have zF := an h tk; (refine rF50_2 ?_ <;> repeat (refine dr ?_; refine rF50_2 ?_)) <;> first | exact nop | clear zF)
      simp only [List.append_assoc, List.cons_append, List.nil_append]
end Go.Proofs.YtkkmgjhfjhcdmaaGreatDoor.Mx

namespace Go.Proofs.YtkkmgjhfjhcdmaaGreatDoor.Mx
open Go Go.RowKit Go.Proofs
theorem rF46_0 {p q : Prop} (k : q) (h : p = q := by conv => lhs; simp -dsimp (disch := first | omega | (simp only [zF, pMapSet, kkey, LR] <;> omega) | fail) only [push_cast, zF, pMapSet, kkey, simprocAttr, -Nat.reduceSubDiff]) : p := h.mpr k
theorem rF46_1 {p q : Prop} (k : q) (h : p = q := by conv => lhs; simp -dsimp (disch := first | omega | (simp only [zF, srt_perm hp, LR] <;> omega) | fail) only [push_cast, zF, srt_perm hp, simprocAttr, -Nat.reduceSubDiff]) : p := h.mpr k
theorem rF46_2 {p q : Prop} (k : q) (h : p = q := by conv => lhs; simp -dsimp (disch := first | omega | (simp only [zF, enb_im _ _ (show (plain (pT s).1 && plain (pT s).2) = true from rfl), LR] <;> omega) | fail) only [push_cast, zF, enb_im _ _ (show (plain (pT s).1 && plain (pT s).2) = true from rfl), simprocAttr, -Nat.reduceSubDiff]) : p := h.mpr k
theorem rF46_3 {p q : Prop} (k : q) (h : p = q := by conv => lhs; simp -dsimp (disch := first | omega | (simp only [zF, List.take_zero, List.flatMap_nil, insL, List.foldl_nil, List.map_nil, LR] <;> omega) | fail) only [push_cast, zF, List.take_zero, List.flatMap_nil, insL, List.foldl_nil, List.map_nil, simprocAttr, -Nat.reduceSubDiff]) : p := h.mpr k
theorem rF46_4 {p q : Prop} (k : q) (h : p = q := by conv => lhs; simp -dsimp (disch := first | omega | (simp only [zF, wr_id, insL, List.foldl_cons, List.foldl_nil, LR] <;> omega) | fail) only [push_cast, zF, wr_id, insL, List.foldl_cons, List.foldl_nil, simprocAttr, -Nat.reduceSubDiff]) : p := h.mpr k
theorem rF46_5 {p q : Prop} (k : q) (h : p = q := by conv => lhs; simp -dsimp (disch := first | omega | (simp only [zF, List.take_zero, insL, List.foldl_nil, LR] <;> omega) | fail) only [push_cast, zF, List.take_zero, insL, List.foldl_nil, simprocAttr, -Nat.reduceSubDiff]) : p := h.mpr k
theorem rF46_6 {p q : Prop} (k : q) (h : p = q := by conv => lhs; simp -dsimp (disch := first | omega | (simp only [zF, wr_id, insL, List.foldl_cons, LR] <;> omega) | fail) only [push_cast, zF, wr_id, insL, List.foldl_cons, simprocAttr, -Nat.reduceSubDiff]) : p := h.mpr k
theorem rF46_7 {p q : Prop} (k : q) (h : p = q := by conv => lhs; simp -dsimp (disch := first | omega | (simp only [zF, wr_id, List.map_append, List.length_append, List.length_cons, List.length_nil, Nat.zero_add, LR] <;> omega) | fail) only [push_cast, zF, wr_id, List.map_append, List.length_append, List.length_cons, List.length_nil, Nat.zero_add, simprocAttr, -Nat.reduceSubDiff]) : p := h.mpr k
theorem mok_pT (l : List Str) : mok (l.map pT) = true := by
  unfold mok
  rw [List.all_eq_true]
  intro e he
  obtain ⟨s, _, rfl⟩ := List.mem_map.1 he
  rfl
theorem insL_app (I L M : List Str) : insL I (L ++ M) = insL (insL I L) M := by unfold insL; rw [List.foldl_append]
theorem nms_none {s : Store} {p : Str} (h : (listF s p).2 = false) : nmsF s p = [p] := by unfold nmsF; rw [list_false h]
def E58 : Env := { T := T0, kp := look [(0, [0]), (1, [1]), (2, [1, 3]), (3, [1, 3, 15, 16, 17]), (4, [1, 3, 15, 16, 17]), (5, [1, 3, 5, 15, 16, 17]), (6, [1, 3, 5, 15, 16, 17]), (7, [1, 3, 6, 15, 16, 17]), (8, [1, 3, 6, 15, 16, 17]), (9, [1, 3, 7, 8, 15, 16, 17]), (10, [1, 3, 7, 15, 16, 17]), (11, [1, 3, 15, 16, 17, 42, 43, 44]), (12, [1, 3, 15, 16, 17, 42, 43, 44]), (13, [1, 3, 10, 15, 16, 17, 42, 43, 44]), (14, [1, 3, 15, 16, 17, 42, 43, 44]), (15, [1, 3, 15, 16, 17]), (16, [3]), (17, [3, 11]), (18, [11, 53]), (19, [11, 53]), (20, [11, 12, 53]), (21, [11]), (22, [11])], dp := look2 [(8, [[], [0], [], [0, 1, 2], [0, 1, 2, 3], [0, 1, 2, 3, 4], [], [6], [0, 1, 2, 3, 4, 5, 6, 7], [0, 1, 2, 3, 4, 5, 6, 7, 8], [0, 1, 2, 3, 4, 5, 6, 7, 8, 9], [0, 1, 2, 3, 4, 5, 6, 7, 8, 9], [], [0, 1, 2, 3, 4, 5, 6, 7, 8, 9, 10, 12], [0, 1, 2, 3, 4, 5, 6, 7, 8, 9, 10, 11, 12, 13]])], md := look3 [(21, 1, [1])] }
attribute [local push_cast] E58
set_option maxRecDepth 20000 in
set_option maxHeartbeats 1000000 in
theorem implNeeded0 (s : Store) (hs : okStore s) (hP : s.P.length ≤ 10) : Does Tryz.prog 58 [.ag (storeC false s)] (.sl true 1 (((nmsL s).foldl addS []).map strR), []) := by
  refine does_of (E := E58) (rs := [.tmp 2]) (lent := []) tOk rfl Tryz.func58 rfl (by decide) rfl rfl (Nat.le_of_ble_eq_true rfl) (Nat.le_of_ble_eq_true rfl) ?_
  rw [← srt_ins]
  ((refine go0 ?_ <;> repeat (refine dr ?_; refine go0 ?_)) <;> try exact nop)
  refine loop_ind (α := Nat) (fun i => i ≤ s.P.length)
    (fun i => ⟨[(1, .pt 1 0 0), (3, .mv 2), (15, .sl false 1 (s.P.map strR)), (16, .sc (.int .i64 s.P.length)), (17, .sc (.int .i64 i))], [(1, .bx (storeC false s)), (2, .mp 0 ((insL [] ((s.P.take i).flatMap (nmsF s))).map pT))], 3⟩) (fun i => s.P.length - i) 0 (Nat.zero_le _) ?_ ?_
  · ((refine rF46_3 ?_) <;> try exact nop)
  intro i hi ih
  by_cases h : i < s.P.length
  · obtain ⟨p, hp⟩ := ex_get h
    have hst := nms_step hp
    obtain ⟨I, hI⟩ : ∃ I, I = insL [] ((s.P.take i).flatMap (nmsF s)) := ⟨_, rfl⟩
    have hnx : insL [] ((s.P.take (i + 1)).flatMap (nmsF s)) = insL I (nmsF s p) := by rw [hst, insL_app, ← hI]
    rw [← hI]
    have hk := mok_kok (mok_pT I)
    have hks := kset_ins I p
    (have zF := an h (an hp (an hk.1 hks)); (refine rF46_0 ?_ <;> repeat (refine dr ?_; refine rF46_0 ?_)) <;> first | exact nop | clear zF)
    refine callC (find s p hs) ?_
    by_cases hat : atI s.w p s.I < 0
    · have hf : (listF s p).2 = false := by unfold listF; rw [if_pos hat]
      rw [nms_none hf] at hnx
      have hg : ¬ 0 ≤ atI s.w p s.I := by omega
      (have zF := hg; (refine go0 ?_ <;> repeat (refine dr ?_; refine go0 ?_)) <;> first | exact nop | clear zF)
      refine ih (i + 1) _ (by omega) h ?_
      rw [hnx]
      ((refine rF46_4 ?_) <;> try exact nop)
    obtain ⟨i0, x0, h1, h2, _⟩ := at_get (w := s.w) (n := p) (I := s.I) (by omega)
    have hxt : x0.t.size ≤ 2097152 := hs.1.2 x0 (List.mem_of_getElem? h2)
    have hil := (List.getElem?_eq_some_iff.1 h2).1
    have hf : listF s p = readL x0.t s.w := by
      unfold listF
      rw [if_neg hat, h1, Int.toNat_natCast, h2]
    rw [h1]
    (have zF := h2; (refine go0 ?_ <;> repeat (refine dr ?_; refine go0 ?_)) <;> first | exact nop | clear zF)
    refine callC (implReadList x0.t s.w (by omega)) ?_
    rw [← hf]
    have hlo := list_ok (s := s) (n := p)
    have hnn := nms_none (s := s) (p := p)
    rw [show nmsF s p = p :: (listF s p).1.S from rfl] at hnx hnn
    generalize listF s p = R at *
    obtain ⟨l, b⟩ := R
    simp only at hlo hnx hnn ⊢
    have hl := hlo.1
    cases b with
    | false =>
      rw [hnn rfl] at hnx
      ((refine go0 ?_ <;> repeat (refine dr ?_; refine go0 ?_)) <;> try exact nop)
      refine ih (i + 1) _ (by omega) h ?_
      rw [hnx]
      ((refine rF46_4 ?_) <;> try exact nop)
    | true =>
    ((refine go0 ?_ <;> repeat (refine dr ?_; refine go0 ?_)) <;> try exact nop)
    refine loop_ind (α := Nat) (fun j => j ≤ l.S.length)
      (fun j => ⟨[(1, .pt 1 0 0), (3, .mv 2), (15, .sl false 1 (s.P.map strR)), (16, .sc (.int .i64 s.P.length)), (17, .sc (.int .i64 i)), (42, .ow 3 0 l.S.length), (43, .sc (.int .i64 l.S.length)), (44, .sc (.int .i64 j))], [(1, .bx (storeC false s)), (2, .mp 0 ((insL (ins I p) (l.S.take j)).map pT)), (3, .ar 1 0 (l.S.map strR))], 4⟩) (fun j => l.S.length - j) 0 (Nat.zero_le _) ?_ ?_
    · ((refine rF46_5 ?_) <;> try exact nop)
    intro j hj ih2
    by_cases h3 : j < l.S.length
    · obtain ⟨x, hx⟩ := ex_get h3
      have hst2 : insL (ins I p) (l.S.take (j + 1)) = ins (insL (ins I p) (l.S.take j)) x := by rw [take_step hx, insL_app]; rfl
      generalize insL (ins I p) (l.S.take j) = J at *
      have hk := mok_kok (mok_pT J)
      have hks := kset_ins J x
      (have zF := an h3 (an hx (an hk.1 hks)); (refine rF46_0 ?_ <;> repeat (refine dr ?_; refine rF46_0 ?_)) <;> first | exact nop | clear zF)
      refine ih2 (j + 1) _ (by omega) h3 ?_
      rw [hst2]
      ((refine go1 ?_) <;> try exact nop)
    · have e : l.S.take j = l.S := List.take_of_length_le (by omega)
      rw [e]
      (have zF := h3; (refine go0 ?_ <;> repeat (refine dr ?_; refine go0 ?_)) <;> first | exact nop | clear zF)
      refine ih (i + 1) _ (by omega) h ?_
      rw [hnx]
      ((refine rF46_6 ?_) <;> try exact nop)
  have e : s.P.take i = s.P := List.take_of_length_le (by omega)
  rw [e, show s.P.flatMap (nmsF s) = nmsL s from rfl]
  have hll : (insL [] (nmsL s)).length ≤ 3760 := by
    have h1 := nodup_len (insL_nodup List.nodup_nil (nmsL s)) (m := nmsL s) (fun x hx => by
      rcases insL_mem.1 hx with q | q
      · cases q
      · exact q)
    have h2 := nms_len s s.P
    unfold nmsL at h1 ⊢
    omega
  clear ih
  generalize insL [] (nmsL s) = l at *
  (have zF := h; (refine go0 ?_ <;> repeat (refine dr ?_; refine go0 ?_)) <;> first | exact nop | clear zF)
  rw [rgk_mv (h := by rfl)]
  ((refine go0 ?_) <;> try exact nop)
  refine loop_ind (α := List Str × List Str × Option (Value × Value)) (fun p => (p.1 ++ p.2.1).Perm l) (fun p => ⟨[(11, .ow 1 0 p.1.length), (53, .pt 2 0 0)], [(1, .ar 1 0 (p.1.map strR)), (2, .im (p.2.1.map pT) p.2.2)], 3⟩) (fun p => p.2.1.length) ([], l, none) (List.Perm.refl _) ?_ ?_
  · ((refine go0 ?_) <;> try exact nop)
  rintro ⟨acc, rem, last⟩ hp ih
  ((refine go0 ?_ <;> repeat (refine dr ?_; refine go0 ?_)) <;> try exact nop)
  refine next_im (pT_plain rem) (fun h0 => ?_) (fun kv r' hpm => ?_)
  · have h0 : rem = [] := by simpa using h0
    subst h0
    simp only [List.append_nil] at hp
    have hlen : acc.length ≤ 2097152 := by rw [hp.length_eq]; omega
    ((refine go0 ?_ <;> repeat (refine dr ?_; refine go0 ?_)) <;> try exact nop)
    refine callC_eq (doesSort acc (by omega)) ?_ ?_
    · ((refine go0 ?_) <;> try exact nop)
    · ((refine rF46_1 ?_ <;> repeat (refine dr ?_; refine rF46_1 ?_)) <;> try exact nop)
      rw [seg_full (by rw [List.length_map, srt_len, hp.length_eq]; exact Nat.le_refl _)]
  · obtain ⟨s, q, rfl, rfl, hq⟩ := map_pT_perm hpm
    have hp2 : (acc ++ [s] ++ q).Perm l := by
      rw [List.append_assoc]
      exact ((List.Perm.refl acc).append hq.symm).trans hp
    have hlen := hp2.length_eq
    simp only [List.length_append, List.length_cons, List.length_nil] at hlen
    ((refine rF46_2 ?_ <;> repeat (refine dr ?_; refine rF46_2 ?_)) <;> try exact nop)
    refine ih (acc ++ [s], q, some (pT s)) _ (by have := hq.length_eq; simp only [List.length_cons] at this; show q.length < rem.length; omega) hp2 ?_
    ((refine rF46_7 ?_) <;> try exact nop)
    rfl
end Go.Proofs.YtkkmgjhfjhcdmaaGreatDoor.Mx

namespace Go.Proofs.YtkkmgjhfjhcdmaaGreatDoor.Mx
open Go Go.RowKit Go.Proofs
theorem rF51_0 {p q : Prop} (k : q) (h : p = q := by conv => lhs; simp -dsimp (disch := first | omega | (simp only [zF, set_item, LR] <;> omega) | fail) only [push_cast, zF, set_item, simprocAttr, -Nat.reduceSubDiff]) : p := h.mpr k
theorem rF51_1 {p q : Prop} (k : q) (h : p = q := by conv => lhs; simp -dsimp (disch := first | omega | (simp only [zF, pMapSet, kkey, LR] <;> omega) | fail) only [push_cast, zF, pMapSet, kkey, simprocAttr, -Nat.reduceSubDiff]) : p := h.mpr k
theorem rF51_2 {p q : Prop} (k : q) (h : p = q := by conv => lhs; simp -dsimp (disch := first | omega | (simp only [zF, pLookup, entries, kkey, mset_get, LR] <;> omega) | fail) only [push_cast, zF, pLookup, entries, kkey, mset_get, simprocAttr, -Nat.reduceSubDiff]) : p := h.mpr k
theorem rF51_3 {p q : Prop} (k : q) (h : p = q := by conv => lhs; simp -dsimp (disch := first | omega | (simp only [zF, seg_tk, seg_dr, wr_id, LR] <;> omega) | fail) only [push_cast, zF, seg_tk, seg_dr, wr_id, simprocAttr, -Nat.reduceSubDiff]) : p := h.mpr k
theorem rF51_4 {p q : Prop} (k : q) (h : p = q := by conv => lhs; simp -dsimp (disch := first | omega | (simp only [zF, mset, List.take_zero, List.foldl_nil, LR] <;> omega) | fail) only [push_cast, zF, mset, List.take_zero, List.foldl_nil, simprocAttr, -Nat.reduceSubDiff]) : p := h.mpr k
theorem rF51_5 {p q : Prop} (k : q) (h : p = q := by conv => lhs; simp -dsimp (disch := first | omega | (simp only [zF, List.take_zero, bytes, LR] <;> omega) | fail) only [push_cast, zF, List.take_zero, bytes, simprocAttr, -Nat.reduceSubDiff]) : p := h.mpr k
theorem rF51_6 {p q : Prop} (k : q) (h : p = q := by conv => lhs; simp -dsimp (disch := first | omega | (simp only [zF, wr_id, Int.add_zero, LR] <;> omega) | fail) only [push_cast, zF, wr_id, Int.add_zero, simprocAttr, -Nat.reduceSubDiff]) : p := h.mpr k
theorem rF51_7 {p q : Prop} (k : q) (h : p = q := by conv => lhs; simp -dsimp (disch := first | omega | (simp only [zF, bestF, LR] <;> omega) | fail) only [push_cast, zF, bestF, simprocAttr, -Nat.reduceSubDiff]) : p := h.mpr k
theorem ins_rowsG {α : Type} (f : α → Row) (P : List α) (z : α) (i : Nat) (hi : i ≤ P.length) : ∃ x : α,
    List.take (i + 1) (P.map f ++ [f z]) ++ List.take (P.length - i) (seg (P.map f ++ [f z]) i (P.length + 1 - i)) ++
      List.drop (i + 1 + min (seg (P.map f ++ [f z]) i (P.length + 1 - i)).length (P.length - i)) (P.map f ++ [f z]) = (P.take i ++ x :: P.drop i).map f := by
  have e : P.map f ++ [f z] = (P ++ [z]).map f := by simp
  rw [e, seg_dr (P ++ [z]) f i (P.length + 1 - i) (by simp only [List.length_append, List.length_cons, List.length_nil]; omega)]
  obtain ⟨x, hx⟩ := ex_get (show i < (P ++ [z]).length by simp; omega)
  refine ⟨x, ?_⟩
  have t1 : (P ++ [z]).take (i + 1) = P.take i ++ [x] := by rw [take_step hx, List.take_append_of_le_length hi]
  have t2 : ((P ++ [z]).drop i).take (P.length - i) = P.drop i := by rw [List.drop_append_of_le_length hi, List.take_append_of_le_length (by rw [List.length_drop]; omega), List.take_of_length_le (by rw [List.length_drop]; omega)]
  have t3 : List.drop (i + 1 + min (((P ++ [z]).drop i).map f).length (P.length - i)) ((P ++ [z]).map f) = [] := List.drop_eq_nil_of_le (by simp only [List.length_map, List.length_append, List.length_drop, List.length_cons, List.length_nil]; omega)
  rw [← List.map_take, ← List.map_take, t1, t2, t3]
  simp
theorem flat_seg {r : List Row} (h : flatR r = true) (a n : Nat) : flatR (seg r a n) = true := by
  unfold flatR seg at *
  rw [List.all_eq_true] at *
  exact fun x hx => h x (List.mem_of_mem_drop (List.mem_of_mem_take hx))
theorem midG_get {α : Type} {a b : List α} {x : α} {i : Nat} (h : a.length = i) : (a ++ x :: b)[i]? = some x := by subst h; simp
theorem midG_set {α : Type} {a b : List α} {x y : α} {i : Nat} (h : a.length = i) : (a ++ x :: b).set i y = a ++ y :: b := by subst h; simp
def E13 : Env := { T := T0, kp := look [(0, [0, 1, 2]), (1, [1, 2, 3, 6]), (2, [6]), (3, [1, 2, 3, 6]), (4, [1, 2, 3, 6, 8]), (5, [1, 2, 3, 6, 8, 9]), (6, [1, 2, 3, 6, 8, 9, 10]), (7, [1, 2, 6, 8, 10]), (8, [6]), (9, [2, 6, 8, 10]), (10, [6, 8]), (11, [1, 2, 3, 6, 8, 9]), (12, [1, 2, 3, 6, 8, 9, 11]), (13, [1, 2, 3, 6, 8, 9, 11, 69, 70, 71]), (14, [1, 2, 3, 6, 8, 9, 11, 69, 70, 71]), (15, [1, 2, 3, 6, 8, 9, 11, 13, 69, 70, 71]), (16, [1, 2, 3, 6, 8, 9, 11, 69, 70, 71]), (17, [1, 2, 3, 6, 8, 9, 11]), (18, [1, 2, 3, 6, 8, 9, 11, 14]), (19, [1, 2, 3, 6, 8, 9, 11, 14, 79, 80, 81]), (20, [1, 2, 3, 6, 8, 9, 11, 14, 79, 80, 81]), (21, [1, 2, 3, 6, 8, 9, 11, 14, 16, 79, 80, 81]), (22, [1, 2, 3, 6, 8, 9, 11, 14, 79, 80, 81]), (23, [1, 2, 3, 6, 8, 9, 11, 14]), (24, [1, 2, 3, 6, 8, 9, 11, 14]), (25, [1, 2, 3, 6, 8, 9, 11, 14, 17]), (26, [1, 2, 3, 6, 8, 9, 11, 14, 17, 105, 106, 107]), (27, [1, 2, 3, 6, 8, 9, 11, 14, 17, 105, 106, 107]), (28, [1, 2, 3, 6, 8, 9, 11, 14, 17, 18, 19, 105, 106, 107]), (29, [1, 2, 3, 6, 8, 9, 11, 14, 18, 105, 106, 107]), (30, [1, 2, 3, 6, 8, 9, 11, 14, 17, 105, 106, 107]), (31, [1, 2, 3, 6, 8, 9, 11, 14, 17]), (32, [6]), (33, [1, 2, 3, 6, 8, 9, 11, 14, 17]), (34, [1, 2, 3, 6, 8, 9, 11, 14, 17]), (35, [1, 2, 3, 6, 8, 9]), (36, [1, 2, 3, 6, 8, 9, 20]), (37, [1, 2, 3, 6, 8, 9, 20]), (38, [1, 2, 6, 8, 20]), (39, [1, 2, 6, 8, 20]), (40, [1, 2, 6, 8, 20]), (41, [6, 8])], dp := look2 [(28, [[], [], [1], [], [3], [1, 2, 3, 4], [0, 1, 2, 3, 4, 5], [0, 1, 2, 3, 4, 5, 6], [0, 1, 2, 3, 4, 5, 6, 7], [0, 1, 2, 3, 4, 5, 6, 7, 8], [0, 1, 2, 3, 4, 5, 6, 7, 8, 9], [0, 1, 2, 3, 4, 5, 6, 7, 8, 9, 10], [0, 1, 2, 3, 4, 5, 6, 7, 8, 9, 10, 11], [0, 1, 2, 3, 4, 5, 6, 7, 8, 9, 10, 11, 12], [0, 1, 2, 3, 4, 5, 6, 7, 8, 9, 10, 11], [0, 1, 2, 3, 4, 5, 6, 7, 8, 9, 10, 11, 14], [0, 1, 2, 3, 4, 5, 6, 7, 8, 9, 10, 11], [0, 1, 2, 3, 4, 5, 6, 7, 8, 9, 10, 11, 14, 15, 16], [0, 1, 2, 3, 4, 5, 6, 7, 8, 9, 10, 11, 14, 15, 16, 17], [0, 1, 2, 3, 4, 5, 6, 7, 8, 9, 10, 11, 14, 15, 16, 17, 18], [0, 1, 2, 3, 4, 5, 6, 7, 8, 9, 10, 11, 12, 13, 14, 15, 16, 17, 18, 19], [0, 1, 2, 3, 4, 5, 6, 7, 8, 9, 10, 11, 12, 13, 14, 15, 16, 17, 18, 19, 20], [0, 1, 2, 3, 4, 5, 6, 7, 8, 9, 10, 11, 12, 13, 14, 15, 16, 17, 18, 19, 20, 21]]), (34, [[], [0], [], [0, 1, 2], [], [4], [], [6], [4, 5, 6, 7], [0, 1, 2, 3, 4, 5, 6, 7, 8], [0, 1, 2, 3, 4, 5, 6, 7, 8, 9], [0, 1, 2, 3, 4, 5, 6, 7, 8, 9, 10]]), (36, [[], [], [1], [1, 2], [0, 1, 2, 3], [0, 1, 2, 3, 4], [0, 1, 2, 3, 4, 5], [0, 1, 2, 3, 4, 5, 6], [0, 1, 2, 3, 4, 5], [0, 1, 2, 3, 4, 5, 6, 7, 8], [0, 1, 2, 3, 4, 5, 6, 7, 8, 9], [0, 1, 2, 3, 4, 5, 6, 7, 8, 9, 10], [0, 1, 2, 3, 4, 5], [0, 1, 2, 3, 4, 5, 12], [0, 1, 2, 3, 4, 5, 6, 7, 8, 9, 10, 11, 12, 13], [0, 1, 2, 3, 4, 5], [0, 1, 2, 3, 4, 5, 6, 7, 8, 9, 10, 11, 12, 13, 14, 15], [0, 1, 2, 3, 4, 5, 6, 7, 8, 9, 10, 11, 12, 13, 14, 15, 16]]), (39, [[], [0], [], [2], [0, 1, 2, 3], [], [5], [], [5, 6, 7], [0, 1, 2, 3, 4, 5, 6, 7, 8]])] }
attribute [local push_cast] E13
set_option maxRecDepth 20000 in
set_option maxHeartbeats 4000000 in
theorem implPut (s : Store) (t : Str) (now : Int) (hs : okStore s) (ht : t.size ≤ 2097152) : Does Tryz.prog 13 [.ag (storeC false s), .sc (.string t), .sc (.int .i64 now)] (.tu [.ag (storeC true (putF s t now).1), .sc (.int .i64 (putF s t now).2)], []) := by
  refine does_of (E := E13) (rs := [.cell 6 26, .tmp 7]) (lent := []) tOk rfl Tryz.func13 rfl (by decide) rfl rfl (Nat.le_of_ble_eq_true rfl) (Nat.le_of_ble_eq_true rfl) ?_
  obtain ⟨M, hM⟩ : ∃ M, M = putF s t now := ⟨_, rfl⟩
  rw [← hM]
  unfold putF at hM
  have hI := hs.1.1
  ((refine go0 ?_ <;> repeat (refine dr ?_; refine go0 ?_)) <;> try exact nop)
  refine callC (implValidStore s hs) ?_
  cases hv : validSt s with
  | false =>
    rw [hv, Bool.false_and, Bool.false_and, if_pos rfl] at hM
    subst hM
    ((refine go0 ?_ <;> repeat (refine dr ?_; refine go0 ?_)) <;> try exact nop)
    rfl
  | true =>
  by_cases z1 : t.size < 1
  · have hz : inB t.size 1 7000 = false := decide_eq_false (by omega)
    rw [hz, Bool.and_false, Bool.false_and, if_pos rfl] at hM
    subst hM
    ((refine go0 ?_ <;> repeat (refine dr ?_; refine go0 ?_)) <;> try exact nop)
    rfl
  by_cases z2 : 7000 < t.size
  · have hz : inB t.size 1 7000 = false := decide_eq_false (by omega)
    rw [hz, Bool.and_false, Bool.false_and, if_pos rfl] at hM
    subst hM
    ((refine go0 ?_ <;> repeat (refine dr ?_; refine go0 ?_)) <;> try exact nop)
    rfl
  have hz : inB t.size 1 7000 = true := decide_eq_true (by omega)
  ((refine go0 ?_ <;> repeat (refine dr ?_; refine go0 ?_)) <;> try exact nop)
  refine callC (timeOk now) ?_
  cases hn : inB now 0 1000000 with
  | false =>
    rw [hn, Bool.and_false, if_pos rfl] at hM
    subst hM
    ((refine go0 ?_ <;> repeat (refine dr ?_; refine go0 ?_)) <;> try exact nop)
    rfl
  | true =>
  rw [if_neg (by rw [hv, hz, hn]; simp)] at hM
  have hP := valid_P hv
  ((refine go0 ?_ <;> repeat (refine dr ?_; refine go0 ?_)) <;> try exact nop)
  refine callC (copyStore s hs) ?_
  ((refine go0 ?_ <;> repeat (refine dr ?_; refine go0 ?_)) <;> try exact nop)
  refine callC (implSum t s.w (by omega)) ?_
  obtain ⟨u, hu⟩ : ∃ u, u = sumS t s.w := ⟨_, rfl⟩
  rw [← hu] at hM ⊢
  ((refine go0 ?_ <;> repeat (refine dr ?_; refine go0 ?_)) <;> try exact nop)
  refine callC (find s u hs) ?_
  by_cases hat : 0 ≤ atI s.w u s.I
  · rw [if_pos hat] at hM
    obtain ⟨i, x, h1, h2, _⟩ := at_get hat
    have hil := (List.getElem?_eq_some_iff.1 h2).1
    rw [textAt_some h1 h2, h1, Int.toNat_natCast] at hM
    rw [h1]
    by_cases he : x.t = t
    · rw [if_pos he] at hM
      subst hM
      (have zF := an h2 he; (refine rF51_0 ?_ <;> repeat (refine dr ?_; refine rF51_0 ?_)) <;> first | exact nop | clear zF)
    · rw [if_neg he] at hM
      subst hM
      (have zF := an h2 he; (refine go0 ?_ <;> repeat (refine dr ?_; refine go0 ?_)) <;> first | exact nop | clear zF)
      rfl
  rw [if_neg hat] at hM
  (have zF := hat; (refine go0 ?_ <;> repeat (refine dr ?_; refine go0 ?_)) <;> first | exact nop | clear zF)
  refine callC (implNeeded0 s hs hP) ?_
  have hNl := needL_len hP
  rw [show (nmsL s).foldl addS [] = needL s from rfl]
  generalize needL s = N at hM hNl ⊢
  ((refine go0 ?_ <;> repeat (refine dr ?_; refine go0 ?_)) <;> try exact nop)
  refine loop_ind (α := Nat) (fun i => i ≤ N.length)
    (fun i => ⟨[(1, .sc (.string t)), (2, .sc (.int .i64 now)), (3, .pt 1 0 0), (6, .pt 2 0 0), (8, .pt 5 0 0), (9, .sc (.string u)), (11, .mv 8), (69, .ow 9 0 N.length), (70, .sc (.int .i64 N.length)), (71, .sc (.int .i64 i))],
      [(1, .bx (storeC false s)), (2, .bx [.sc (.int .i64 0), .sc (.int .i64 0), .ow 3 0 0, .ow 4 0 0]), (3, .ar 2 0 []), (4, .ar 1 0 []), (5, .bx [.sc (.int .i64 s.w), .sc (.int .i64 s.r), .ow 6 0 s.I.length, .ow 7 0 s.P.length]), (6, .ar 2 0 (s.I.map (itemC true))), (7, .ar 1 0 (s.P.map strR)), (8, .mp 0 (mset (N.take i))), (9, .ar 1 0 (N.map strR))], 10⟩) (fun i => N.length - i) 0 (Nat.zero_le _) ?_ ?_
  · ((refine rF51_4 ?_) <;> try exact nop)
  intro i hi ih
  by_cases h : i < N.length
  · obtain ⟨x, hx⟩ := ex_get h
    have hk := mok_kok (mset_mok (N.take i))
    have hst := mset_step hx
    generalize mset (N.take i) = E at *
    (have zF := an h (an hx hk.1); (refine rF51_1 ?_ <;> repeat (refine dr ?_; refine rF51_1 ?_)) <;> first | exact nop | clear zF)
    refine ih (i + 1) _ (by omega) h ?_
    rw [hst]
    ((refine go1 ?_) <;> try exact nop)
  rw [show N.take i = N from List.take_of_length_le (by omega)]
  clear ih
  (have zF := h; (refine go0 ?_ <;> repeat (refine dr ?_; refine go0 ?_)) <;> first | exact nop | clear zF)
  refine loop_ind (α := Nat) (fun i => i ≤ s.I.length)
    (fun i => ⟨[(1, .sc (.string t)), (2, .sc (.int .i64 now)), (3, .pt 1 0 0), (6, .pt 2 0 0), (8, .pt 5 0 0), (9, .sc (.string u)), (11, .mv 8), (14, .sc (.int .i64 (bytes (s.I.take i)))), (79, .ow 6 0 s.I.length), (80, .sc (.int .i64 s.I.length)), (81, .sc (.int .i64 i))],
      [(1, .bx (storeC false s)), (2, .bx [.sc (.int .i64 0), .sc (.int .i64 0), .ow 3 0 0, .ow 4 0 0]), (3, .ar 2 0 []), (4, .ar 1 0 []), (5, .bx [.sc (.int .i64 s.w), .sc (.int .i64 s.r), .ow 6 0 s.I.length, .ow 7 0 s.P.length]), (6, .ar 2 0 (s.I.map (itemC true))), (7, .ar 1 0 (s.P.map strR)), (8, .mp 0 (mset N))], 9⟩) (fun i => s.I.length - i) 0 (Nat.zero_le _) ?_ ?_
  · ((refine rF51_5 ?_) <;> try exact nop)
  intro i2 hi2 ih
  by_cases h2 : i2 < s.I.length
  · obtain ⟨x, hx⟩ := ex_get h2
    have hbt := bytes_le hs.1
    have b1 := bytes_app (s.I.take (i2 + 1)) (s.I.drop (i2 + 1))
    have b2 := bytes_app (s.I.take i2) [x]
    rw [← take_step hx, bytes, bytes] at b2
    rw [List.take_append_drop] at b1
    have b3 := bytes_nn (s.I.drop (i2 + 1))
    have b4 := bytes_nn (s.I.take i2)
    (have zF := an h2 hx; (refine go1 ?_ <;> repeat (refine dr ?_; refine go1 ?_)) <;> first | exact nop | clear zF)
    refine ih (i2 + 1) _ (by omega) h2 ?_
    rw [b2]
    ((refine rF51_6 ?_) <;> try exact nop)
  rw [show s.I.take i2 = s.I from List.take_of_length_le (by omega)]
  clear ih
  (have zF := h2; (refine go0 ?_ <;> repeat (refine dr ?_; refine go0 ?_)) <;> first | exact nop | clear zF)
  obtain ⟨E, hE⟩ : ∃ E, E = evF s.w s.r N t.size s.I := ⟨_, rfl⟩
  rw [← hE] at hM
  have hk := mok_kok (mset_mok N)
  have hk2 := hk.2
  simp only [plain] at hk2
  refine loop_ind (α := List Item) (fun J => okL okItem J ∧ evF s.w s.r N t.size J = E)
    (fun J => ⟨[(1, .sc (.string t)), (2, .sc (.int .i64 now)), (3, .pt 1 0 0), (6, .pt 2 0 0), (8, .pt 5 0 0), (9, .sc (.string u)), (11, .mv 8), (14, .sc (.int .i64 (bytes J)))],
      [(1, .bx (storeC false s)), (2, .bx [.sc (.int .i64 0), .sc (.int .i64 0), .ow 3 0 0, .ow 4 0 0]), (3, .ar 2 0 []), (4, .ar 1 0 []), (5, .bx [.sc (.int .i64 s.w), .sc (.int .i64 s.r), .ow 6 0 J.length, .ow 7 0 s.P.length]), (6, .ar 2 0 (J.map (itemC true))), (7, .ar 1 0 (s.P.map strR)), (8, .mp 0 (mset N))], 9⟩) (fun J => J.length) s.I ⟨hs.1, hE.symm⟩ ?_ ?_
  · ((refine go0 ?_) <;> try exact nop)
  rintro J ⟨hJ, hEJ⟩ ih
  have hJl := hJ.1
  have hb := bytes_le hJ
  have hb0 := bytes_nn J
  rw [evF] at hEJ
  by_cases hc : s.r < bytes J + t.size ∨ 1000 ≤ J.length
  · rw [if_pos hc] at hEJ
    have two : (s.r < bytes J + t.size ∧ s.r < bytes J + t.size) ∨ (¬ s.r < bytes J + t.size ∧ 1000 ≤ J.length) := by omega
    rcases two with ⟨h1, h2⟩ | ⟨h1, h2⟩
    all_goals
      ((refine go1 ?_ <;> repeat (refine dr ?_; refine go1 ?_)) <;> try exact nop)
      refine loop_ind (α := Nat) (fun i => i ≤ J.length)
        (fun i => ⟨[(1, .sc (.string t)), (2, .sc (.int .i64 now)), (3, .pt 1 0 0), (6, .pt 2 0 0), (8, .pt 5 0 0), (9, .sc (.string u)), (11, .mv 8), (14, .sc (.int .i64 (bytes J))), (17, .sc (.int .i64 (bestF s.w N J i))), (105, .ow 6 0 J.length), (106, .sc (.int .i64 J.length)), (107, .sc (.int .i64 i))],
          [(1, .bx (storeC false s)), (2, .bx [.sc (.int .i64 0), .sc (.int .i64 0), .ow 3 0 0, .ow 4 0 0]), (3, .ar 2 0 []), (4, .ar 1 0 []), (5, .bx [.sc (.int .i64 s.w), .sc (.int .i64 s.r), .ow 6 0 J.length, .ow 7 0 s.P.length]), (6, .ar 2 0 (J.map (itemC true))), (7, .ar 1 0 (s.P.map strR)), (8, .mp 0 (mset N))], 9⟩) (fun i => J.length - i) 0 (Nat.zero_le _) ?_ ?_
      · ((refine rF51_7 ?_) <;> try exact nop)
      intro i hi ih2
      by_cases h : i < J.length
      · obtain ⟨x, hx⟩ := ex_get h
        have hxt : x.t.size ≤ 2097152 := hJ.2 x (List.mem_of_getElem? hx)
        have hst : bestF s.w N J (i + 1) = if inL N (sumS x.t s.w) = false ∧ (bestF s.w N J i < 0 ∨ x.u < usedAt J (bestF s.w N J i)) then (i : Int) else bestF s.w N J i := by rw [bestF, hx]
        have hr := best_rng s.w N J i
        obtain ⟨B, hB⟩ : ∃ B, B = bestF s.w N J i := ⟨_, rfl⟩
        rw [← hB] at hst hr ⊢
        (have zF := an h hx; (refine go0 ?_ <;> repeat (refine dr ?_; refine go0 ?_)) <;> first | exact nop | clear zF)
        refine callC (implSum x.t s.w (by omega)) ?_
        cases hin : inL N (sumS x.t s.w) with
        | true =>
          rw [if_neg (by rw [hin]; simp)] at hst
          (have zF := an h (an hx (an hk.1 (an hk2 hin))); (refine rF51_2 ?_ <;> repeat (refine dr ?_; refine rF51_2 ?_)) <;> first | exact nop | clear zF)
          refine ih2 (i + 1) _ (by omega) h ?_
          rw [hst]
          ((refine go1 ?_) <;> try exact nop)
        | false =>
        by_cases hB0 : B < 0
        · rw [if_pos ⟨hin, .inl hB0⟩] at hst
          (have zF := an h (an hx (an hk.1 (an hk2 (an hin hB0)))); (refine rF51_2 ?_ <;> repeat (refine dr ?_; refine rF51_2 ?_)) <;> first | exact nop | clear zF)
          refine ih2 (i + 1) _ (by omega) h ?_
          rw [hst]
          ((refine go1 ?_) <;> try exact nop)
        obtain ⟨k, hk0⟩ : ∃ k : Nat, B = k := ⟨B.toNat, by omega⟩
        rw [hk0] at hst hB0 hr ⊢
        obtain ⟨y, hy⟩ := ex_get (show k < J.length by omega)
        have hua : usedAt J (k : Int) = y.u := by unfold usedAt; rw [Int.toNat_natCast, hy]
        rw [hua] at hst
        by_cases hlt : x.u < y.u
        · rw [if_pos ⟨hin, .inr hlt⟩] at hst
          (have zF := an h (an hx (an hy (an hk.1 (an hk2 (an hin (an hB0 hlt)))))); (refine rF51_2 ?_ <;> repeat (refine dr ?_; refine rF51_2 ?_)) <;> first | exact nop | clear zF)
          refine ih2 (i + 1) _ (by omega) h ?_
          rw [hst]
          ((refine go1 ?_) <;> try exact nop)
        · rw [if_neg (by rintro ⟨_, q | q⟩; exact hB0 q; exact hlt q)] at hst
          (have zF := an h (an hx (an hy (an hk.1 (an hk2 (an hin (an hB0 hlt)))))); (refine rF51_2 ?_ <;> repeat (refine dr ?_; refine rF51_2 ?_)) <;> first | exact nop | clear zF)
          refine ih2 (i + 1) _ (by omega) h ?_
          rw [hst]
          ((refine go1 ?_) <;> try exact nop)
      have hi : i = J.length := by omega
      subst hi
      clear ih2
      have hr := best_rng s.w N J J.length
      obtain ⟨B, hB⟩ : ∃ B, B = bestF s.w N J J.length := ⟨_, rfl⟩
      rw [← hB] at hEJ hr ⊢
      by_cases hB0 : B < 0
      · rw [if_neg (by omega)] at hEJ
        rw [← hEJ] at hM
        subst hM
        (have zF := hB0; (refine go0 ?_ <;> repeat (refine dr ?_; refine go0 ?_)) <;> first | exact nop | clear zF)
        rfl
      · rw [if_pos (by omega)] at hEJ
        obtain ⟨k, hk0⟩ : ∃ k : Nat, B = k := ⟨B.toNat, by omega⟩
        rw [hk0, Int.toNat_natCast] at hEJ
        rw [hk0] at hB0 hr ⊢
        obtain ⟨y, hy⟩ := ex_get (show k < J.length by omega)
        have hyt : y.t.size ≤ 2097152 := hJ.2 y (List.mem_of_getElem? hy)
        have hrl := rmAt_len (l := J) (i := k) (by omega)
        have hrb := bytes_rm hy
        have hrb0 := bytes_nn (rmAt J k)
        have e0 : bytes J - y.t.size = bytes (rmAt J k) := by omega
        have e1 : ((k : Int) + 1).toNat = k + 1 := by omega
        have e2 : k + (J.drop (k + 1)).length = (rmAt J k).length := by rw [List.length_drop]; omega
        have e3 : (J.map (itemC true)).length = J.length := List.length_map _
        have e4 : (J.take k).map (itemC true) ++ (J.drop (k + 1)).map (itemC true) = (rmAt J k).map (itemC true) := by unfold rmAt; rw [List.map_append]
        (have zF := an hB0 (an hy (an e0 e1)); (refine rF51_3 ?_ <;> repeat (refine dr ?_; refine rF51_3 ?_)) <;> first | exact nop | clear zF)
        refine ih (rmAt J k) _ (by omega) ⟨⟨by omega, fun a ha => hJ.2 a (by unfold rmAt at ha; rcases List.mem_append.1 ha with q | q; exact List.mem_of_mem_take q; exact List.mem_of_mem_drop q)⟩, hEJ⟩ ?_
        (have zF := an e0 (an e1 (an e2 e4)); (refine go1 ?_) <;> first | exact nop | clear zF)
  · rw [if_neg hc] at hEJ
    rw [← hEJ] at hM
    simp only at hM
    have h1 : ¬ s.r < bytes J + t.size := by omega
    have h2 : ¬ 1000 ≤ J.length := by omega
    clear ih hEJ hE
    ((refine go1 ?_ <;> repeat (refine dr ?_; refine go1 ?_)) <;> try exact nop)
    have hkr := rk_le (sumsI s.w J) u
    have hsl : (sumsI s.w J).length = J.length := by unfold sumsI; rw [List.length_map]
    refine loop_ind (α := Nat) (fun k => k ≤ rk (sumsI s.w J) u)
      (fun k => ⟨[(1, .sc (.string t)), (2, .sc (.int .i64 now)), (3, .pt 1 0 0), (6, .pt 2 0 0), (8, .pt 5 0 0), (9, .sc (.string u)), (20, .sc (.int .i64 k))],
        [(1, .bx (storeC false s)), (2, .bx [.sc (.int .i64 0), .sc (.int .i64 0), .ow 3 0 0, .ow 4 0 0]), (3, .ar 2 0 []), (4, .ar 1 0 []), (5, .bx [.sc (.int .i64 s.w), .sc (.int .i64 s.r), .ow 6 0 J.length, .ow 7 0 s.P.length]), (6, .ar 2 0 (J.map (itemC true))), (7, .ar 1 0 (s.P.map strR))], 8⟩) (fun k => J.length - k) 0 (Nat.zero_le _) ?_ ?_
    · ((refine go0 ?_) <;> try exact nop)
    intro k hkk0 ih
    have last : k = rk (sumsI s.w J) u → k ≤ J.length ∧ M = ({ s with I := insAt J k ⟨t, now⟩ }, 0) := fun q => ⟨by omega, by rw [hM, ← q]⟩
    obtain ⟨z, hins⟩ : ∃ z : Item, k ≤ J.length → List.take (k + 1) (J.map (itemC true) ++ [itemC true ⟨⟨#[]⟩, 0⟩]) ++ List.take (J.length - k) (seg (J.map (itemC true) ++ [itemC true ⟨⟨#[]⟩, 0⟩]) k (J.length + 1 - k)) ++
      List.drop (k + 1 + min (seg (J.map (itemC true) ++ [itemC true ⟨⟨#[]⟩, 0⟩]) k (J.length + 1 - k)).length (J.length - k)) (J.map (itemC true) ++ [itemC true ⟨⟨#[]⟩, 0⟩]) = (J.take k ++ z :: J.drop k).map (itemC true) := by
      by_cases q : k ≤ J.length
      · obtain ⟨z, hz⟩ := ins_rowsG (itemC true) J ⟨⟨#[]⟩, 0⟩ k q
        exact ⟨z, fun _ => hz⟩
      · exact ⟨⟨em, 0⟩, fun q2 => (q q2).elim⟩
    have e1 : ((k : Int) + 1).toNat = k + 1 := by omega
    have e2 : ((J.length : Int) + 1 - ((k : Int) + 1)).toNat = J.length - k := by omega
    have e3 : ((J.length : Int) + 1 - (k : Int)).toNat = J.length + 1 - k := by omega
    have hfl : flatR (seg (J.map (itemC true) ++ [itemC true ⟨⟨#[]⟩, 0⟩]) k (J.length + 1 - k)) = true := flat_seg (by rw [flatR_app, flat_Item]; rfl) _ _
    have hg := fun q : k ≤ J.length => midG_get (a := J.take k) (b := J.drop k) (x := z) (i := k) (by simp; omega)
    have hset := fun q : k ≤ J.length => set_item (J.take k ++ z :: J.drop k) k t now
    have hms := fun q : k ≤ J.length => midG_set (a := J.take k) (b := J.drop k) (x := z) (y := (⟨t, now⟩ : Item)) (i := k) (by simp; omega)
    simp only [itemC] at hfl
    by_cases h : k < J.length
    · obtain ⟨x, hx⟩ := ex_get h
      have hxt : x.t.size ≤ 2097152 := hJ.2 x (List.mem_of_getElem? hx)
      have hxs : (sumsI s.w J)[k]? = some (sumS x.t s.w) := by unfold sumsI; rw [List.getElem?_map, hx]; rfl
      (have zF := an h hx; (refine go0 ?_ <;> repeat (refine dr ?_; refine go0 ?_)) <;> first | exact nop | clear zF)
      refine callC (implSum x.t s.w (by omega)) ?_
      cases e : lts (sumS x.t s.w) u with
      | true =>
        have := rk_step hkk0 hxs e
        (have zF := an h (an hx e); (refine go0 ?_ <;> repeat (refine dr ?_; refine go0 ?_)) <;> first | exact nop | clear zF)
        refine ih (k + 1) _ (by omega) this ?_
        ((refine go1 ?_) <;> try exact nop)
      | false =>
        have hkk : k = rk (sumsI s.w J) u := by
          rcases Nat.lt_or_eq_of_le hkk0 with q | q
          · obtain ⟨y, hy, hy2⟩ := rk_all q
            rw [hxs] at hy; cases hy; rw [e] at hy2; cases hy2
          · exact q
        obtain ⟨hkl, hM⟩ := last hkk
        have hins := hins hkl
        have hg := hg hkl
        have hset := hset hkl
        rw [hms hkl] at hset
        simp only [itemC] at hins
        subst hM
        (have zF := an h (an hx (an e (an e1 (an e2 (an e3 (an hins (an hg hfl))))))); (refine go1 ?_ <;> repeat (refine dr ?_; refine go1 ?_)) <;> first | exact nop | clear zF)
        rw [hset]
        rfl
    · have hkk : k = rk (sumsI s.w J) u := by omega
      obtain ⟨hkl, hM⟩ := last hkk
      have hins := hins hkl
      have hg := hg hkl
      have hset := hset hkl
      rw [hms hkl] at hset
      simp only [itemC] at hins
      subst hM
      (have zF := an h (an e1 (an e2 (an e3 (an hins (an hg hfl))))); (refine go1 ?_ <;> repeat (refine dr ?_; refine go1 ?_)) <;> first | exact nop | clear zF)
      rw [hset]
      rfl
end Go.Proofs.YtkkmgjhfjhcdmaaGreatDoor.Mx

namespace Go.Proofs.YtkkmgjhfjhcdmaaGreatDoor.Mx
open Go Go.RowKit Go.Proofs
def E16 : Env := { T := T0, kp := look [(0, [0, 1, 2]), (1, [1, 2, 3, 6]), (2, [6]), (3, [1, 2, 3, 6]), (4, [1, 2, 3, 6, 8, 9]), (5, [6, 9]), (6, [1, 2, 3, 6, 8]), (7, [2, 6, 8, 10]), (8, [2, 6, 8, 10, 11]), (9, [2, 6, 8, 10, 11]), (10, [2, 6, 8, 10, 11]), (11, [2, 6, 8, 9, 10, 11]), (12, [6, 9]), (13, [6, 8])], dp := look2 [(3, [[], [], [], [2], [1, 2, 3], [0, 1, 2, 3, 4], [0, 1, 2, 3, 4, 5], [0, 1, 2, 3, 4, 5, 6], [0, 1, 2, 3, 4, 5, 6], [], [0, 1, 2, 3, 4, 5, 6, 7, 9], [0, 1, 2, 3, 4, 5, 6, 7, 8, 9, 10]]), (6, [[], [], [1], [0, 1, 2], [], [4], [0, 1, 2, 3, 4, 5], [0, 1, 2, 3, 4, 5, 6], [], [0, 1, 2, 3, 4, 5, 6, 8], [0, 1, 2, 3, 4, 5, 6, 7, 8, 9], [0, 1, 2, 3, 4, 5, 6, 7, 8, 9, 10]]), (10, [[], [], [], [1, 2], [1, 2, 3], [], [0, 1, 2, 3, 4, 5], [0, 1, 2, 3, 4, 5, 6], [0, 1, 2, 3, 4, 5, 6, 7], [0, 1, 2, 3, 4, 5, 6, 7], [0, 1, 2, 3, 4, 5, 6, 7, 8], [0, 1, 2, 3, 4, 5, 6, 7, 8, 9, 10]])] }
attribute [local push_cast] E16
set_option maxRecDepth 20000 in
set_option maxHeartbeats 2000000 in
theorem specSave (s : Store) (t : Str) (now : Int) (hs : okStore s) (ht : t.size ≤ 2097152) : Does Tryz.prog 16 [.ag (storeC false s), .sc (.string t), .sc (.int .i64 now)] (.tu [.ag (storeC true (saveF s t now).1), .sc (.int .i64 (saveF s t now).2)], []) := by
  refine does_of (E := E16) (rs := [.cell 6 26, .tmp 7]) (lent := []) tOk rfl Tryz.func16 rfl (by decide) rfl rfl (Nat.le_of_ble_eq_true rfl) (Nat.le_of_ble_eq_true rfl) ?_
  obtain ⟨M, hM⟩ : ∃ M, M = saveF s t now := ⟨_, rfl⟩
  rw [← hM]
  unfold saveF at hM
  ((refine go0 ?_ <;> repeat (refine dr ?_; refine go0 ?_)) <;> try exact nop)
  refine callC (specValidStore s hs) ?_
  cases hv : validSt s with
  | false =>
    rw [hv, Bool.false_and, Bool.false_and, if_pos rfl] at hM
    subst hM
    ((refine go0 ?_ <;> repeat (refine dr ?_; refine go0 ?_)) <;> try exact nop)
    rfl
  | true =>
  by_cases hbig : 3000 < t.size
  · rw [show decide (t.size ≤ 3000) = false from decide_eq_false (by omega), Bool.and_false, Bool.false_and, if_pos rfl] at hM
    subst hM
    ((refine go0 ?_ <;> repeat (refine dr ?_; refine go0 ?_)) <;> try exact nop)
    rfl
  ((refine go0 ?_ <;> repeat (refine dr ?_; refine go0 ?_)) <;> try exact nop)
  refine callC (l1In ..) ?_
  cases hn : inB now 0 1000000 with
  | false =>
    rw [hn, Bool.and_false, if_pos rfl] at hM
    subst hM
    ((refine go0 ?_ <;> repeat (refine dr ?_; refine go0 ?_)) <;> try exact nop)
    rfl
  | true =>
  rw [if_neg (by rw [hv, hn, show decide (t.size ≤ 3000) = true from decide_eq_true (by omega)]; simp)] at hM
  have hnl := nameS_le t s.w
  ((refine go0 ?_ <;> repeat (refine dr ?_; refine go0 ?_)) <;> try exact nop)
  refine callC (specName t s.w (by omega)) ?_
  ((refine go0 ?_ <;> repeat (refine dr ?_; refine go0 ?_)) <;> try exact nop)
  refine callC (specPin s (nameS t s.w) hs) ?_
  have hpo := pinS_ok hs (n := nameS t s.w) (by show _ ≤ _; omega)
  generalize pinS s (nameS t s.w) = R at *
  obtain ⟨o, c⟩ := R
  simp only at hM hpo ⊢
  by_cases hc : c = 0
  rotate_left
  · rw [if_neg hc] at hM
    subst hM
    (have zF := hc; (refine go0 ?_ <;> repeat (refine dr ?_; refine go0 ?_)) <;> first | exact nop | clear zF)
    rfl
  rw [if_pos hc] at hM
  subst hc
  have hdl := desc_len (t := t) (w := s.w)
  ((refine go0 ?_ <;> repeat (refine dr ?_; refine go0 ?_)) <;> try exact nop)
  refine callC (specDescribe t s.w (by omega)) ?_
  ((refine go0 ?_ <;> repeat (refine dr ?_; refine go0 ?_)) <;> try exact nop)
  refine callC (specFormList (descL t s.w).1 s.w (by omega)) ?_
  ((refine go0 ?_ <;> repeat (refine dr ?_; refine go0 ?_)) <;> try exact nop)
  refine callC (specPieces t (by omega)) ?_
  have hsz := fun x (hx : x ∈ partsL t s.w) => parts_sz hx
  have hln := parts_len t s.w
  have hpl := pieces_len t
  have hL : [.sc (.string (formL (descL t s.w).1 s.w))] :: (piecesL t).map strR = (partsL t s.w).map strR := rfl
  have hLl : 1 + (piecesL t).length = (partsL t s.w).length := by unfold partsL; rw [List.length_cons]; omega
  generalize partsL t s.w = L at *
  generalize piecesL t = P at *
  generalize formL (descL t s.w).1 s.w = W at *
  (have zF := an hL hLl; (refine go0 ?_ <;> repeat (refine dr ?_; refine go0 ?_)) <;> first | exact nop | clear zF)
  refine loop_ind (α := Nat × Store) (fun q => q.1 ≤ L.length ∧ okStore q.2 ∧ putsF now q.2 (L.drop q.1) = M)
    (fun q => ⟨[(2, .sc (.int .i64 now)), (6, .pt 1 0 0), (8, .pt 4 0 0), (10, .ow 7 0 L.length), (11, .sc (.int .i64 q.1))],
      [(1, .bx [.sc (.int .i64 0), .sc (.int .i64 0), .ow 2 0 0, .ow 3 0 0]), (2, .ar 2 0 []), (3, .ar 1 0 []), (4, .bx [.sc (.int .i64 q.2.w), .sc (.int .i64 q.2.r), .ow 5 0 q.2.I.length, .ow 6 0 q.2.P.length]), (5, .ar 2 0 (q.2.I.map (itemC true))), (6, .ar 1 0 (q.2.P.map strR)), (7, .ar 1 0 (L.map strR))], 8⟩) (fun q => L.length - q.1) (0, o) ⟨Nat.zero_le _, hpo, by rw [hM]; rfl⟩ ?_ ?_
  · (have zF := an hL hLl; (refine go0 ?_) <;> first | exact nop | clear zF)
  rintro ⟨i, a⟩ ⟨hi, ha, hq⟩ ih
  replace hi : i ≤ L.length := hi
  replace ha : okStore a := ha
  replace hq : putsF now a (L.drop i) = M := hq
  by_cases h : i < L.length
  · obtain ⟨x, hx⟩ := ex_get h
    have hxs := hsz x (List.mem_of_getElem? hx)
    rw [drop_step hx, putsF] at hq
    (have zF := an h hx; (refine go0 ?_ <;> repeat (refine dr ?_; refine go0 ?_)) <;> first | exact nop | clear zF)
    refine callC (specPut a x now ha (by omega)) ?_
    have hpo := put_ok (now := now) (t := x) ha (by omega)
    generalize putF a x now = R at *
    obtain ⟨b, c⟩ := R
    simp only at hq hpo ⊢
    by_cases hc : c = 0
    · rw [if_pos hc] at hq
      subst hc
      (have zF := an h hx; (refine go0 ?_ <;> repeat (refine dr ?_; refine go0 ?_)) <;> first | exact nop | clear zF)
      refine ih (i + 1, b) _ (by show L.length - (i + 1) < L.length - i; omega) ⟨h, hpo, hq⟩ ?_
      ((refine go1 ?_) <;> try exact nop)
    · rw [if_neg hc] at hq
      subst hq
      (have zF := an h (an hx hc); (refine go0 ?_ <;> repeat (refine dr ?_; refine go0 ?_)) <;> first | exact nop | clear zF)
      rfl
  · rw [List.drop_eq_nil_of_le (by omega), putsF] at hq
    subst hq
    (have zF := h; (refine go0 ?_ <;> repeat (refine dr ?_; refine go0 ?_)) <;> first | exact nop | clear zF)
end Go.Proofs.YtkkmgjhfjhcdmaaGreatDoor.Mx

namespace Go.Proofs.YtkkmgjhfjhcdmaaGreatDoor.Mx
open Go Go.RowKit Go.Proofs
def repB (a : List UInt8) : Nat → List UInt8
  | 0 => []
  | n + 1 => a ++ repB a n
theorem rep_two (a : List UInt8) : ∀ n, repB (a ++ a) n = repB a (2 * n)
  | 0 => rfl
  | n + 1 => by
    rw [repB, rep_two a n, show 2 * (n + 1) = 2 * n + 1 + 1 by omega, repB, repB, List.append_assoc]
theorem rep_odd (a : List UInt8) {n : Nat} (h : n % 2 = 1) : repB a n = a ++ repB (a ++ a) (n / 2) := by
  rw [rep_two]
  have e : n = 2 * (n / 2) + 1 := by omega
  conv => lhs; rw [e, repB]
theorem rep_even (a : List UInt8) {n : Nat} (h : ¬ n % 2 = 1) : repB a n = repB (a ++ a) (n / 2) := by
  rw [rep_two]
  have e : n = 2 * (n / 2) := by omega
  conv => lhs; rw [e]
theorem repB_len (a : List UInt8) : ∀ n, (repB a n).length = a.length * n
  | 0 => rfl
  | n + 1 => by rw [repB, List.length_append, repB_len a n, Nat.mul_succ]; omega
def manyS (s : Str) (n : Nat) : Str := stB (repB (bt s) n)
theorem bt_app (a b : Str) : bt (a ++ b) = bt a ++ bt b := by
  conv => lhs; rw [← stB_bt a, ← stB_bt b, stB_app, bt_stB]
theorem manyS_sz (s : Str) (n : Nat) : (manyS s n).size = s.size * n := by
  unfold manyS; rw [stB_size, repB_len, bt_len]
attribute [local push_cast] E61
set_option maxHeartbeats 1000000 in
theorem l1ManyX (s : Str) (n : Nat) (hn : n ≤ 1000000) (hK : s.size * n ≤ 1000000) (hs : s.size ≤ 2000000) : Does Tryz.prog 61 [.sc (.string s), .sc (.int .i64 n)] (.sc (.string (manyS s n)), []) := by
  refine does_of (E := E61) (rs := [.tmp 4]) (lent := []) tOk rfl Tryz.func61 rfl (by decide) rfl rfl (Nat.le_of_ble_eq_true rfl) (Nat.le_of_ble_eq_true rfl) ?_
  obtain ⟨M, hM⟩ : ∃ M, M = manyS s n := ⟨_, rfl⟩
  rw [← hM]
  have hM : bt M = repB (bt s) n := by rw [hM]; unfold manyS; rw [bt_stB]
  ((refine go0 ?_ <;> repeat (refine dr ?_; refine go0 ?_)) <;> try exact nop)
  refine loop_ind (α := Str × Nat × Str) (fun q => q.2.2.size + q.1.size * q.2.1 ≤ 1000000 ∧ q.1.size ≤ 2000000 ∧ q.2.1 ≤ 1000000 ∧ bt q.2.2 ++ repB (bt q.1) q.2.1 = bt M)
    (fun q => ⟨[(0, .sc (.string q.1)), (1, .sc (.int .i64 q.2.1)), (5, .sc (.string q.2.2))], [], 1⟩)
    (fun q => q.2.1) (s, n, ⟨#[]⟩) ⟨by show 0 + s.size * n ≤ 1000000; omega, hs, hn, by rw [hM]; rfl⟩ ?_ ?_
  · ((refine go0 ?_) <;> try exact nop)
  rintro ⟨s, n, o⟩ ⟨g1, g2, g3, g4⟩ ih
  replace g1 : o.size + s.size * n ≤ 1000000 := g1
  replace g2 : s.size ≤ 2000000 := g2
  replace g3 : n ≤ 1000000 := g3
  replace g4 : bt o ++ repB (bt s) n = bt M := g4
  have m2 := tmod2 n
  have d2 := tdiv2 n
  by_cases h : 0 < n
  · have hle := le_prod g1 h
    by_cases e : n % 2 = 1
    · have i1 := half_odd g1 e
      have i2 := rep_odd (bt s) e
      rw [e] at m2
      have hsz : (s ++ s).size = s.size + s.size := ByteArray.size_append
      have hsz2 : (o ++ s).size = o.size + s.size := ByteArray.size_append
      (have zF := an h (an m2 d2); (refine go0 ?_ <;> repeat (refine dr ?_; refine go0 ?_)) <;> first | exact nop | clear zF)
      refine ih (s ++ s, n / 2, o ++ s) _ (by show n / 2 < n; omega) ⟨by show (o ++ s).size + (s ++ s).size * (n / 2) ≤ 1000000; rw [hsz, hsz2]; exact i1, by show (s ++ s).size ≤ 2000000; omega, by show n / 2 ≤ 1000000; omega, by
        show bt (o ++ s) ++ repB (bt (s ++ s)) (n / 2) = bt M
        rw [bt_app, bt_app, List.append_assoc, ← i2, g4]⟩ ?_
      ((refine go1 ?_) <;> try exact nop)
    · have i1 := half_even g1 e
      have i2 := rep_even (bt s) e
      have e : n % 2 = 0 := by omega
      rw [e] at m2
      have hsz : (s ++ s).size = s.size + s.size := ByteArray.size_append
      (have zF := an h (an m2 d2); (refine go0 ?_ <;> repeat (refine dr ?_; refine go0 ?_)) <;> first | exact nop | clear zF)
      refine ih (s ++ s, n / 2, o) _ (by show n / 2 < n; omega) ⟨by show o.size + (s ++ s).size * (n / 2) ≤ 1000000; rw [hsz]; exact i1, by show (s ++ s).size ≤ 2000000; omega, by show n / 2 ≤ 1000000; omega, by
        show bt o ++ repB (bt (s ++ s)) (n / 2) = bt M
        rw [bt_app, ← i2, g4]⟩ ?_
      ((refine go1 ?_) <;> try exact nop)
  · have hn : n = 0 := by omega
    rw [hn, repB, List.append_nil] at g4
    have hoM : o = M := by rw [← stB_bt o, g4, stB_bt]
    subst hoM
    (have zF := h; (refine go0 ?_ <;> repeat (refine dr ?_; refine go0 ?_)) <;> first | exact nop | clear zF)
end Go.Proofs.YtkkmgjhfjhcdmaaGreatDoor.Mx

namespace Go.Proofs.YtkkmgjhfjhcdmaaGreatDoor.Mx
open Go Go.RowKit Go.Proofs
theorem put_wP {s : Store} {t : Str} {now : Int} (h : (putF s t now).2 = 0) : (putF s t now).1.w = s.w ∧ (putF s t now).1.r = s.r ∧ (putF s t now).1.P = s.P := by
  unfold putF at h ⊢
  split at h
  · cases h
  · rename_i h1
    rw [if_neg h1]
    split at h
    · rename_i h2
      rw [if_pos h2]
      split at h
      · rename_i h3; rw [if_pos h3]; exact ⟨rfl, rfl, rfl⟩
      · cases h
    · rename_i h2
      rw [if_neg h2]
      split at h
      · cases h
      · rename_i J hJ
        exact ⟨rfl, rfl, rfl⟩
def gS (s : Store) : Prop := okStore s ∧ s.P.length ≤ 10 ∧ 1 ≤ s.w ∧ s.w ≤ 8 ∧ s.I.length ≤ 1000
end Go.Proofs.YtkkmgjhfjhcdmaaGreatDoor.Mx

namespace Go.Proofs.YtkkmgjhfjhcdmaaGreatDoor.Mx
open Go Go.RowKit
theorem lts_total {a b : Str} (h1 : lts a b = false) (h2 : a ≠ b) : lts b a = true := by
  rw [lts_def] at *
  have h1 := of_decide_eq_false h1
  refine decide_eq_true ?_
  apply Classical.byContradiction
  intro h3
  exact h2 (str_ext (List.le_antisymm (List.not_lt.1 h3) (List.not_lt.1 h1)))
abbrev ltsP (a b : Str) : Prop := lts a b = true
theorem pw_ins {l : List Str} {u : Str} (h : l.Pairwise ltsP) (hn : u ∉ l) : (l.take (rk l u) ++ u :: l.drop (rk l u)).Pairwise ltsP := by
  have h0 : ∀ x ∈ l.take (rk l u), ltsP x u := fun x hx => by
    obtain ⟨i, hi⟩ := List.mem_iff_getElem?.1 hx
    have hlt := idx_lt hi
    rw [List.length_take] at hlt
    rw [List.getElem?_take_of_lt (by omega)] at hi
    obtain ⟨y, hy, hy2⟩ := rk_all (show i < rk l u by omega)
    rw [hi] at hy; cases hy; exact hy2
  have hs := h
  rw [← List.take_append_drop (rk l u) l] at hs
  obtain ⟨ha, hb, hab⟩ := List.pairwise_append.1 hs
  have h1 : ∀ x ∈ l.drop (rk l u), ltsP u x := fun x hx => by
    have hne : u ≠ x := fun e => hn (e ▸ List.mem_of_mem_drop hx)
    obtain ⟨y, hy⟩ : ∃ y, l[rk l u]? = some y := by
      obtain ⟨i, hi⟩ := List.mem_iff_getElem?.1 hx
      have := idx_lt hi
      rw [List.length_drop] at this
      exact ex_get (by omega)
    have hst := rk_stop hy
    have hyn : y ≠ u := fun e => hn (e ▸ List.mem_of_getElem? hy)
    have huy := lts_total hst hyn
    rw [drop_step hy] at hx hb
    rcases List.mem_cons.1 hx with rfl | hx
    · exact huy
    · exact lts_trans huy ((List.pairwise_cons.1 hb).1 x hx)
  refine List.pairwise_append.2 ⟨ha, List.pairwise_cons.2 ⟨h1, hb⟩, fun x hx y hy => ?_⟩
  rcases List.mem_cons.1 hy with rfl | hy
  · exact h0 x hx
  · exact hab x hx y hy
def okIt (x : Item) : Bool := inB x.t.size 1 7000 && inB x.u 0 1000000
theorem it_iff (w : Int) : ∀ (I : List Item) (p : Option Str), itF w p I = true ↔ (∀ x ∈ I, okIt x = true) ∧ (sumsI w I).Pairwise ltsP ∧ ∀ x ∈ I, aft p (sumS x.t w) = true
  | [], p => by simp [itF, sumsI]
  | a :: r, p => by
    rw [itF]
    simp only [Bool.and_eq_true]
    rw [it_iff w r, show sumsI w (a :: r) = sumS a.t w :: sumsI w r from rfl, List.pairwise_cons]
    constructor
    · rintro ⟨⟨⟨h1, h2⟩, h3⟩, h4, h5, h6⟩
      refine ⟨fun x hx => ?_, ⟨fun y hy => ?_, h5⟩, fun x hx => ?_⟩
      · rcases List.mem_cons.1 hx with rfl | hx
        · unfold okIt; rw [h1, h2]; rfl
        · exact h4 x hx
      · obtain ⟨x, hx, rfl⟩ := List.mem_map.1 hy
        exact h6 x hx
      · rcases List.mem_cons.1 hx with rfl | hx
        · exact h3
        · cases p with
          | none => rfl
          | some q => exact lts_trans h3 (h6 x hx)
    · rintro ⟨h1, ⟨h2, h3⟩, h4⟩
      have ha := h1 a (by simp)
      unfold okIt at ha
      rw [Bool.and_eq_true] at ha
      exact ⟨⟨⟨ha.1, ha.2⟩, h4 a (by simp)⟩, fun x hx => h1 x (by simp [hx]), h3, fun x hx => h2 _ (List.mem_map.2 ⟨x, hx, rfl⟩)⟩
theorem asc_iff (w : Int) : ∀ (P : List Str) (p : Option Str), ascF w p P = true ↔ (∀ x ∈ P, (x.size : Int) = w) ∧ P.Pairwise ltsP ∧ ∀ x ∈ P, aft p x = true
  | [], p => by simp [ascF]
  | a :: r, p => by
    rw [ascF]
    simp only [Bool.and_eq_true, decide_eq_true_eq]
    rw [asc_iff w r, List.pairwise_cons]
    constructor
    · rintro ⟨⟨h1, h3⟩, h4, h5, h6⟩
      refine ⟨fun x hx => ?_, ⟨fun y hy => h6 y hy, h5⟩, fun x hx => ?_⟩
      · rcases List.mem_cons.1 hx with rfl | hx
        · exact h1
        · exact h4 x hx
      · rcases List.mem_cons.1 hx with rfl | hx
        · exact h3
        · cases p with
          | none => rfl
          | some q => exact lts_trans h3 (h6 x hx)
    · rintro ⟨h1, ⟨h2, h3⟩, h4⟩
      exact ⟨⟨h1 a (by simp), h4 a (by simp)⟩, fun x hx => h1 x (by simp [hx]), h3, h2⟩
theorem aft_none (x : Str) : aft none x = true := rfl
theorem valid_iff (s : Store) : validSt s = true ↔ (1 ≤ s.w ∧ s.w ≤ 8) ∧ (0 ≤ s.r ∧ s.r ≤ 60000) ∧ s.I.length ≤ 1000 ∧ s.P.length ≤ 10 ∧ (∀ x ∈ s.P, (x.size : Int) = s.w) ∧ s.P.Pairwise ltsP ∧
    (∀ x ∈ s.I, okIt x = true) ∧ (sumsI s.w s.I).Pairwise ltsP ∧ bytes s.I ≤ s.r := by
  unfold validSt
  simp only [Bool.and_eq_true, decide_eq_true_eq]
  rw [asc_iff, it_iff]
  constructor
  · rintro ⟨⟨⟨⟨⟨⟨h1, h2⟩, h3⟩, h4⟩, h5, h6, _⟩, h7, h8, _⟩, h9⟩
    exact ⟨of_decide_eq_true h1, of_decide_eq_true h2, h3, h4, h5, h6, h7, h8, h9⟩
  · rintro ⟨h1, h2, h3, h4, h5, h6, h7, h8, h9⟩
    exact ⟨⟨⟨⟨⟨⟨decide_eq_true h1, decide_eq_true h2⟩, h3⟩, h4⟩, h5, h6, fun _ _ => rfl⟩, h7, h8, fun _ _ => rfl⟩, h9⟩
def has (s : Store) (t : Str) : Prop := ∃ x ∈ s.I, x.t = t
theorem at_has {s : Store} {u : Str} (h : 0 ≤ atI s.w u s.I) : ∃ x ∈ s.I, sumS x.t s.w = u ∧ textAt s u = x.t := by
  obtain ⟨k, y, h1, h2, h3⟩ := at_get h
  exact ⟨y, List.mem_of_getElem? h2, h3, textAt_some h1 h2⟩
theorem put_shape {s : Store} {t : Str} {now : Int} (h : (putF s t now).2 = 0) : (validSt s = true ∧ inB t.size 1 7000 = true ∧ inB now 0 1000000 = true) ∧
    ((∃ k x, s.I[k]? = some x ∧ x.t = t ∧ (putF s t now).1 = { s with I := s.I.set k ⟨t, now⟩ }) ∨
      (atI s.w (sumS t s.w) s.I < 0 ∧ ∃ J, evF s.w s.r (needL s) t.size s.I = some J ∧ (putF s t now).1 = { s with I := insAt J (rk (sumsI s.w J) (sumS t s.w)) ⟨t, now⟩ })) := by
  unfold putF at h ⊢
  split at h
  · cases h
  · rename_i h1
    rw [if_neg h1]
    have hv : validSt s = true ∧ inB t.size 1 7000 = true ∧ inB now 0 1000000 = true := by
      have := (Bool.not_eq_false _).mp h1
      simp only [Bool.and_eq_true] at this
      exact ⟨this.1.1, this.1.2, this.2⟩
    refine ⟨hv, ?_⟩
    split at h
    · rename_i h2
      rw [if_pos h2]
      split at h
      · rename_i h3
        rw [if_pos h3]
        obtain ⟨k, x, a1, a2, a3⟩ := at_get h2
        refine .inl ⟨k, x, a2, ?_, ?_⟩
        · rw [← textAt_some a1 a2]; exact h3
        · rw [a1, Int.toNat_natCast]
      · cases h
    · rename_i h2
      rw [if_neg h2]
      split at h
      · cases h
      · rename_i J hJ
        exact .inr ⟨by omega, J, hJ, rfl⟩
theorem sums_set {w : Int} {I : List Item} {k : Nat} {x : Item} {t : Str} {u : Int} (hx : I[k]? = some x) (e : x.t = t) : sumsI w (I.set k ⟨t, u⟩) = sumsI w I := by
  unfold sumsI
  rw [List.map_set]
  apply List.ext_getElem?
  intro i
  rw [List.getElem?_set]
  split
  · rename_i hi
    subst hi
    split
    · rw [List.getElem?_map, hx, ← e]; rfl
    · rename_i hl
      rw [List.length_map] at hl
      exact (hl (idx_lt hx)).elim
  · rfl
theorem bytes_set : ∀ {I : List Item} {k : Nat} {x : Item} {t : Str} {u : Int}, I[k]? = some x → x.t = t → bytes (I.set k ⟨t, u⟩) = bytes I
  | [], k, x, t, u, h, _ => by simp at h
  | a :: r, 0, x, t, u, h, e => by
    simp only [List.getElem?_cons_zero, Option.some.injEq] at h
    subst h
    rw [List.set_cons_zero, bytes, bytes, ← e]
  | a :: r, k + 1, x, t, u, h, e => by
    rw [List.set_cons_succ, bytes, bytes, bytes_set (by simpa using h) e]
theorem bytes_ins (I : List Item) (k : Nat) (x : Item) : bytes (insAt I k x) = bytes I + x.t.size := by
  have h := bytes_app (I.take k) (I.drop k)
  rw [List.take_append_drop] at h
  unfold insAt
  rw [bytes_app, bytes]; omega
theorem sums_ins (w : Int) (I : List Item) (k : Nat) (x : Item) : sumsI w (insAt I k x) = (sumsI w I).take k ++ sumS x.t w :: (sumsI w I).drop k := by
  unfold sumsI insAt
  rw [List.map_append, List.map_cons, List.map_take, List.map_drop]
theorem put_valid {s : Store} {t : Str} {now : Int} (h : (putF s t now).2 = 0) : validSt (putF s t now).1 = true := by
  obtain ⟨⟨hv, ht, hn⟩, hs⟩ := put_shape h
  have hV := (valid_iff s).1 hv
  obtain ⟨v1, v2, v3, v4, v5, v6, v7, v8, v9⟩ := hV
  have hok : okIt ⟨t, now⟩ = true := by unfold okIt; rw [ht, hn]; rfl
  rcases hs with ⟨k, x, hx, e, hp⟩ | ⟨h0, J, hJ, hp⟩
  · rw [hp, valid_iff]
    refine ⟨v1, v2, by show (s.I.set _ _).length ≤ _; rw [List.length_set]; exact v3, v4, v5, v6, fun y hy => ?_, ?_, ?_⟩
    · rcases List.mem_or_eq_of_mem_set hy with q | q
      · exact v7 y q
      · rw [q]; exact hok
    · show (sumsI s.w (s.I.set _ _)).Pairwise _
      rw [sums_set hx e]; exact v8
    · show bytes (s.I.set _ _) ≤ _
      rw [bytes_set hx e]; exact v9
  · have hsub := evF_sub hJ
    have hfit := evF_fit hJ
    have hrk := rk_le (sumsI s.w J) (sumS t s.w)
    rw [show (sumsI s.w J).length = J.length by unfold sumsI; rw [List.length_map]] at hrk
    have hsubs : (sumsI s.w J).Sublist (sumsI s.w s.I) := hsub.map _
    have hni : sumS t s.w ∉ sumsI s.w J := fun q => by
      have h1 := at_neg.1 h0
      have h2 : inL (s.I.map fun x => sumS x.t s.w) (sumS t s.w) = true := (inL_iff _ _).2 (hsubs.subset q)
      rw [h2] at h1; cases h1
    rw [hp, valid_iff]
    refine ⟨v1, v2, by show (insAt _ _ _).length ≤ _; rw [insAt_len hrk]; omega, v4, v5, v6, fun y hy => ?_, ?_, ?_⟩
    · have hy : y ∈ insAt J (rk (sumsI s.w J) (sumS t s.w)) ⟨t, now⟩ := hy
      unfold insAt at hy
      simp only [List.mem_append, List.mem_cons] at hy
      rcases hy with q | q | q
      · exact v7 y (hsub.subset (List.mem_of_mem_take q))
      · rw [q]; exact hok
      · exact v7 y (hsub.subset (List.mem_of_mem_drop q))
    · show (sumsI s.w (insAt _ _ _)).Pairwise _
      rw [sums_ins]
      exact pw_ins (v8.sublist hsubs) hni
    · show bytes (insAt _ _ _) ≤ _
      rw [bytes_ins]; exact hfit.1
end Go.Proofs.YtkkmgjhfjhcdmaaGreatDoor.Mx

namespace Go.Proofs.YtkkmgjhfjhcdmaaGreatDoor.Mx
open Go Go.RowKit
def notP (p : Peer) (u : Str) : Peer := ⟨p.lies, 0, p.last, em, if (addS p.N u).length ≤ 376 then addS p.N u else p.N⟩
def lieP (p : Peer) (b : Bool) : Peer := ⟨if b = true then (if 3 < p.lies + 1 then 3 else p.lies + 1) else p.lies, 0, p.last, em, p.N⟩
noncomputable def lieB (f : Fetch) (m : Message) : Bool :=
  !decide (sumS m.tx f.st.w = m.sum) || (decide (m.sum = f.nm) && !(readL m.tx f.st.w).2) || decide ((putF f.st m.tx f.now).2 = 1) || decide ((putF f.st m.tx f.now).2 = 2)
noncomputable def takeF (f : Fetch) (m : Message) : Fetch :=
  if m.to ≠ 0 ∨ m.fr < 1 ∨ (f.Q.length : Int) < m.fr then f
  else match f.Q[(m.fr - 1).toNat]? with
    | none => f
    | some p =>
      if p.wait = 0 ∨ m.sum ≠ p.ask then f
      else if m.has = false then { f with Q := f.Q.set (m.fr - 1).toNat (notP p m.sum) }
      else { f with
        full := if lieB f m = false ∧ (putF f.st m.tx f.now).2 = 3 then true else f.full
        st := if lieB f m = false ∧ (putF f.st m.tx f.now).2 = 0 then (putF f.st m.tx f.now).1 else f.st
        Q := f.Q.set (m.fr - 1).toNat (lieP p (lieB f m)) }
noncomputable def takenB (f : Fetch) (m : Message) : Bool :=
  if m.to ≠ 0 ∨ m.fr < 1 ∨ (f.Q.length : Int) < m.fr then false
  else match f.Q[(m.fr - 1).toNat]? with
    | none => false
    | some p => if p.wait = 0 ∨ m.sum ≠ p.ask then false else if m.has = false then false else lieB f m
noncomputable def ftakeF (f : Fetch) (m : Message) : Fetch := if validF f = true then takeF f m else emF
end Go.Proofs.YtkkmgjhfjhcdmaaGreatDoor.Mx

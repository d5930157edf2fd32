/- A machine over values for Go functions, proved sound, and functions run on it: texts F3, B2, F6, F8, V6, F9. -/
import Derived.Test.YtfanhfmfbfncfaaShA
import Derived.Test.YtfanhfmfbfncfaaHearXag
import Derived.Test.YtfanhfmfbfncfaaHearXah
/- Stores: valid, copied. -/
namespace Go.Proofs.Ytfanhfmfbfncfaa.Mx
set_option linter.all false
open Go Go.RowKit Go.Proofs
set_option linter.unusedSimpArgs false
def E112 : Env := { T := T0, kp := look [(0, [0, 1]), (1, [0, 1]), (2, [0, 1, 7, 8, 9]), (3, [0, 1, 7, 8, 9]), (4, [0, 1, 5, 6, 7, 8, 9]), (5, []), (6, [0, 1, 7, 8, 9]), (7, [])] }
attribute [local push_cast] E112
theorem ascending (l : List Str) (w : Int) (hl : l.length ≤ 2097152) : Does Try.prog 112 [.sl false 1 (l.map strR), .sc (.int .i64 w)] (.sc (.bool (ascF w none l)), []) := by
  refine does_of (E := E112) (rs := [.tmp 4]) (lent := []) tOk rfl Try.func112 rfl (by decide) rfl rfl (Nat.le_of_ble_eq_true rfl) (Nat.le_of_ble_eq_true rfl) ?_
  generalize hM : ascF w none l = M
  simp -dsimp (disch := first | omega | (simp only [List.length_cons, List.length_nil, List.length_map, List.length_append, List.length_take, List.length_drop, List.length_replicate, List.length_set, mkG_len] <;> omega) | fail) only [push_cast, if_pos, decide_eq_true, decide_eq_false, Nat.reduceAdd, Nat.reduceSub, Nat.reduceMul, Nat.reduceBEq, Nat.reduceEqDiff, Nat.reduceLT, Nat.reduceLeDiff, Int.reduceToNat, Int.reduceLE, Int.reduceLT, Int.reduceAdd, Int.reduceSub, Int.reduceMul, Int.reduceEq, Int.reduceNeg, ↓reduceIte, reduceCtorEq]
  refine loop_ind (α := Nat) (fun i => i ≤ l.length ∧ ascF w (bif i == 0 then none else l[i - 1]?) (l.drop i) = M) (fun i => ⟨[(0, .sl false 1 (l.map strR)), (1, .sc (.int .i64 w)), (7, .sl false 1 (l.map strR)), (8, .sc (.int .i64 l.length)), (9, .sc (.int .i64 i))], [], 1⟩) (fun i => l.length - i) 0 ⟨Nat.zero_le _, hM⟩ ?_ ?_
  · simp -dsimp (disch := first | omega | (simp only [List.length_cons, List.length_nil, List.length_map, List.length_append, List.length_take, List.length_drop, List.length_replicate, List.length_set, mkG_len] <;> omega) | fail) only [push_cast, if_pos, decide_eq_true, decide_eq_false, Nat.reduceAdd, Nat.reduceSub, Nat.reduceMul, Nat.reduceBEq, Nat.reduceEqDiff, Nat.reduceLT, Nat.reduceLeDiff, Int.reduceToNat, Int.reduceLE, Int.reduceLT, Int.reduceAdd, Int.reduceSub, Int.reduceMul, Int.reduceEq, Int.reduceNeg, ↓reduceIte, reduceCtorEq]
  rintro i ⟨hi, hy⟩ ih
  by_cases h : i < l.length
  · obtain ⟨s, hx⟩ := ex_get h
    rw [drop_step hx, ascF] at hy
    have hs : ∀ P, (bif i + 1 == 0 then none else l[i + 1 - 1]?) = P → P = some s := fun P e => by rw [← e, show (i + 1 == 0) = false by simp, cond_false, Nat.add_sub_cancel, hx]
    by_cases e1 : (s.size : Int) = w
    rotate_left
    · rw [show decide ((s.size : Int) = w) = false by simp [e1], Bool.false_and, Bool.false_and] at hy
      simp -dsimp (disch := first | omega | (simp only [hx, e1, ← hy, List.length_cons, List.length_nil, List.length_map, List.length_append, List.length_take, List.length_drop, List.length_replicate, List.length_set, mkG_len] <;> omega) | fail) only [push_cast, if_pos, decide_eq_true, decide_eq_false, hx, e1, ← hy, Nat.reduceAdd, Nat.reduceSub, Nat.reduceMul, Nat.reduceBEq, Nat.reduceEqDiff, Nat.reduceLT, Nat.reduceLeDiff, Int.reduceToNat, Int.reduceLE, Int.reduceLT, Int.reduceAdd, Int.reduceSub, Int.reduceMul, Int.reduceEq, Int.reduceNeg, ↓reduceIte, reduceCtorEq]
    rw [show decide ((s.size : Int) = w) = true by simp [e1], Bool.true_and] at hy
    by_cases e2 : i = 0
    · subst e2
      rw [show aft (bif 0 == 0 then none else l[0 - 1]?) s = true from rfl, Bool.true_and] at hy
      simp -dsimp (disch := first | omega | (simp only [hx, e1, List.length_cons, List.length_nil, List.length_map, List.length_append, List.length_take, List.length_drop, List.length_replicate, List.length_set, mkG_len] <;> omega) | fail) only [push_cast, if_pos, decide_eq_true, decide_eq_false, hx, e1, Nat.reduceAdd, Nat.reduceSub, Nat.reduceMul, Nat.reduceBEq, Nat.reduceEqDiff, Nat.reduceLT, Nat.reduceLeDiff, Int.reduceToNat, Int.reduceLE, Int.reduceLT, Int.reduceAdd, Int.reduceSub, Int.reduceMul, Int.reduceEq, Int.reduceNeg, ↓reduceIte, reduceCtorEq]
      refine ih 1 _ (by omega) ⟨h, by rw [hs _ rfl]; exact hy⟩ ?_
      simp -dsimp (disch := first | omega | (simp only [wr_id, List.length_cons, List.length_nil, List.length_map, List.length_append, List.length_take, List.length_drop, List.length_replicate, List.length_set, mkG_len] <;> omega) | fail) only [push_cast, if_pos, decide_eq_true, decide_eq_false, wr_id, Nat.reduceAdd, Nat.reduceSub, Nat.reduceMul, Nat.reduceBEq, Nat.reduceEqDiff, Nat.reduceLT, Nat.reduceLeDiff, Int.reduceToNat, Int.reduceLE, Int.reduceLT, Int.reduceAdd, Int.reduceSub, Int.reduceMul, Int.reduceEq, Int.reduceNeg, ↓reduceIte, reduceCtorEq]
    · obtain ⟨q, hq⟩ := ex_get (show i - 1 < l.length by omega)
      rw [show (bif i == 0 then none else l[i - 1]?) = some q by rw [show (i == 0) = false by simp [e2]]; exact hq, show aft (some q) s = lts q s from rfl] at hy
      have e3 : ((i : Int) - 1).toNat = i - 1 := by omega
      cases e4 : lts q s with
      | false =>
        rw [e4, Bool.false_and] at hy
        simp -dsimp (disch := first | omega | (simp only [hx, hq, e1, e3, wr_id, e4, ← hy, List.length_cons, List.length_nil, List.length_map, List.length_append, List.length_take, List.length_drop, List.length_replicate, List.length_set, mkG_len] <;> omega) | fail) only [push_cast, if_pos, decide_eq_true, decide_eq_false, hx, hq, e1, e3, wr_id, e4, ← hy, Nat.reduceAdd, Nat.reduceSub, Nat.reduceMul, Nat.reduceBEq, Nat.reduceEqDiff, Nat.reduceLT, Nat.reduceLeDiff, Int.reduceToNat, Int.reduceLE, Int.reduceLT, Int.reduceAdd, Int.reduceSub, Int.reduceMul, Int.reduceEq, Int.reduceNeg, ↓reduceIte, reduceCtorEq]
      | true =>
        rw [e4, Bool.true_and] at hy
        simp -dsimp (disch := first | omega | (simp only [hx, hq, e1, e3, wr_id, e4, List.length_cons, List.length_nil, List.length_map, List.length_append, List.length_take, List.length_drop, List.length_replicate, List.length_set, mkG_len] <;> omega) | fail) only [push_cast, if_pos, decide_eq_true, decide_eq_false, hx, hq, e1, e3, wr_id, e4, Nat.reduceAdd, Nat.reduceSub, Nat.reduceMul, Nat.reduceBEq, Nat.reduceEqDiff, Nat.reduceLT, Nat.reduceLeDiff, Int.reduceToNat, Int.reduceLE, Int.reduceLT, Int.reduceAdd, Int.reduceSub, Int.reduceMul, Int.reduceEq, Int.reduceNeg, ↓reduceIte, reduceCtorEq]
        refine ih (i + 1) _ (by omega) ⟨h, by rw [hs _ rfl]; exact hy⟩ ?_
        simp -dsimp (disch := first | omega | (simp only [wr_id, List.length_cons, List.length_nil, List.length_map, List.length_append, List.length_take, List.length_drop, List.length_replicate, List.length_set, mkG_len] <;> omega) | fail) only [push_cast, if_pos, decide_eq_true, decide_eq_false, wr_id, Nat.reduceAdd, Nat.reduceSub, Nat.reduceMul, Nat.reduceBEq, Nat.reduceEqDiff, Nat.reduceLT, Nat.reduceLeDiff, Int.reduceToNat, Int.reduceLE, Int.reduceLT, Int.reduceAdd, Int.reduceSub, Int.reduceMul, Int.reduceEq, Int.reduceNeg, ↓reduceIte, reduceCtorEq]
  · rw [List.drop_eq_nil_of_le (by omega), ascF] at hy
    simp -dsimp (disch := first | omega | (simp only [← hy, List.length_cons, List.length_nil, List.length_map, List.length_append, List.length_take, List.length_drop, List.length_replicate, List.length_set, mkG_len] <;> omega) | fail) only [push_cast, if_pos, decide_eq_true, decide_eq_false, ← hy, Nat.reduceAdd, Nat.reduceSub, Nat.reduceMul, Nat.reduceBEq, Nat.reduceEqDiff, Nat.reduceLT, Nat.reduceLeDiff, Int.reduceToNat, Int.reduceLE, Int.reduceLT, Int.reduceAdd, Int.reduceSub, Int.reduceMul, Int.reduceEq, Int.reduceNeg, ↓reduceIte, reduceCtorEq]
def E116 : Env := { T := T0, kp := look [(0, [0, 1]), (1, [0, 1]), (2, [0, 1, 5]), (3, [0, 1, 5]), (4, [0, 1, 5]), (5, []), (6, [])] }
attribute [local push_cast] E116
theorem l2In (l : List Str) (s : Str) (hl : l.length ≤ 2097152) : Does Try.prog 116 [.sl false 1 (l.map strR), .sc (.string s)] (.sc (.bool (inL l s)), []) := by
  refine does_of (E := E116) (rs := [.tmp 4]) (lent := []) tOk rfl Try.func116 rfl (by decide) rfl rfl (Nat.le_of_ble_eq_true rfl) (Nat.le_of_ble_eq_true rfl) ?_
  generalize hM : inL l s = M
  simp -dsimp (disch := first | omega | (simp only [List.length_cons, List.length_nil, List.length_map, List.length_append, List.length_take, List.length_drop, List.length_replicate, List.length_set, mkG_len] <;> omega) | fail) only [push_cast, if_pos, decide_eq_true, decide_eq_false, Nat.reduceAdd, Nat.reduceSub, Nat.reduceMul, Nat.reduceBEq, Nat.reduceEqDiff, Nat.reduceLT, Nat.reduceLeDiff, Int.reduceToNat, Int.reduceLE, Int.reduceLT, Int.reduceAdd, Int.reduceSub, Int.reduceMul, Int.reduceEq, Int.reduceNeg, ↓reduceIte, reduceCtorEq]
  refine loop_ind (α := Nat) (fun i => i ≤ l.length ∧ inL (l.drop i) s = M) (fun i => ⟨[(0, .sl false 1 (l.map strR)), (1, .sc (.string s)), (5, .sc (.int .i64 i))], [], 1⟩) (fun i => l.length - i) 0 ⟨Nat.zero_le _, hM⟩ ?_ ?_
  · simp -dsimp (disch := first | omega | (simp only [List.length_cons, List.length_nil, List.length_map, List.length_append, List.length_take, List.length_drop, List.length_replicate, List.length_set, mkG_len] <;> omega) | fail) only [push_cast, if_pos, decide_eq_true, decide_eq_false, Nat.reduceAdd, Nat.reduceSub, Nat.reduceMul, Nat.reduceBEq, Nat.reduceEqDiff, Nat.reduceLT, Nat.reduceLeDiff, Int.reduceToNat, Int.reduceLE, Int.reduceLT, Int.reduceAdd, Int.reduceSub, Int.reduceMul, Int.reduceEq, Int.reduceNeg, ↓reduceIte, reduceCtorEq]
  rintro i ⟨hi, hy⟩ ih
  by_cases h : i < l.length
  · obtain ⟨x, hx⟩ := ex_get h
    rw [drop_step hx] at hy
    by_cases e : x = s
    · have hy : true = M := by rw [← hy]; simp [inL, e]
      simp -dsimp (disch := first | omega | (simp only [hx, e, ← hy, List.length_cons, List.length_nil, List.length_map, List.length_append, List.length_take, List.length_drop, List.length_replicate, List.length_set, mkG_len] <;> omega) | fail) only [push_cast, if_pos, decide_eq_true, decide_eq_false, hx, e, ← hy, Nat.reduceAdd, Nat.reduceSub, Nat.reduceMul, Nat.reduceBEq, Nat.reduceEqDiff, Nat.reduceLT, Nat.reduceLeDiff, Int.reduceToNat, Int.reduceLE, Int.reduceLT, Int.reduceAdd, Int.reduceSub, Int.reduceMul, Int.reduceEq, Int.reduceNeg, ↓reduceIte, reduceCtorEq]
    · simp -dsimp (disch := first | omega | (simp only [hx, e, List.length_cons, List.length_nil, List.length_map, List.length_append, List.length_take, List.length_drop, List.length_replicate, List.length_set, mkG_len] <;> omega) | fail) only [push_cast, if_pos, decide_eq_true, decide_eq_false, hx, e, Nat.reduceAdd, Nat.reduceSub, Nat.reduceMul, Nat.reduceBEq, Nat.reduceEqDiff, Nat.reduceLT, Nat.reduceLeDiff, Int.reduceToNat, Int.reduceLE, Int.reduceLT, Int.reduceAdd, Int.reduceSub, Int.reduceMul, Int.reduceEq, Int.reduceNeg, ↓reduceIte, reduceCtorEq]
      refine ih (i + 1) _ (by omega) ⟨h, by rw [← hy]; simp [inL, e]⟩ ?_
      simp -dsimp (disch := first | omega | (simp only [wr_id, List.length_cons, List.length_nil, List.length_map, List.length_append, List.length_take, List.length_drop, List.length_replicate, List.length_set, mkG_len] <;> omega) | fail) only [push_cast, if_pos, decide_eq_true, decide_eq_false, wr_id, Nat.reduceAdd, Nat.reduceSub, Nat.reduceMul, Nat.reduceBEq, Nat.reduceEqDiff, Nat.reduceLT, Nat.reduceLeDiff, Int.reduceToNat, Int.reduceLE, Int.reduceLT, Int.reduceAdd, Int.reduceSub, Int.reduceMul, Int.reduceEq, Int.reduceNeg, ↓reduceIte, reduceCtorEq]
  · rw [List.drop_eq_nil_of_le (by omega)] at hy
    have hy : false = M := by rw [← hy]; rfl
    simp -dsimp (disch := first | omega | (simp only [← hy, List.length_cons, List.length_nil, List.length_map, List.length_append, List.length_take, List.length_drop, List.length_replicate, List.length_set, mkG_len] <;> omega) | fail) only [push_cast, if_pos, decide_eq_true, decide_eq_false, ← hy, Nat.reduceAdd, Nat.reduceSub, Nat.reduceMul, Nat.reduceBEq, Nat.reduceEqDiff, Nat.reduceLT, Nat.reduceLeDiff, Int.reduceToNat, Int.reduceLE, Int.reduceLT, Int.reduceAdd, Int.reduceSub, Int.reduceMul, Int.reduceEq, Int.reduceNeg, ↓reduceIte, reduceCtorEq]
end Go.Proofs.Ytfanhfmfbfncfaa.Mx

/- sort.SearchStrings. -/
namespace Go.Proofs.Ytfanhfmfbfncfaa.Mx
set_option linter.all false
open Go Go.RowKit Go.Proofs
theorem lts_def (a b : Str) : lts a b = decide (a.data.toList < b.data.toList) := bytesLess_eq _ _
/-- what is less stands first -/
def parts (l : List Str) (s : Str) : Prop := ∀ a b : Nat, a ≤ b → ∀ x y, l[a]? = some x → l[b]? = some y → lts y s = true → lts x s = true
theorem countP_rk {s : Str} : ∀ {l : List Str}, parts l s → l.countP (fun y => lts y s) = rk l s
  | [], _ => rfl
  | a :: r, h => by
    rw [List.countP_cons, rk]
    have ht : parts r s := fun i j hij x y hx hy => h (i + 1) (j + 1) (by omega) x y hx hy
    cases ha : lts a s with
    | true => rw [countP_rk ht]; simp
    | false =>
      have : r.countP (fun y => lts y s) = 0 := by
        rw [List.countP_eq_zero]
        intro y hy
        obtain ⟨j, hj⟩ := List.mem_iff_getElem?.1 hy
        intro hc
        have := h 0 (j + 1) (by omega) a y rfl hj hc
        rw [ha] at this; cases this
      rw [this]; simp
theorem searchStrings (l : List Str) (s : Str) (hl : l.length ≤ 2097152) (hp : parts l s) : Does Try.prog 114 [.sl false 1 (l.map strR), .sc (.string s)] (.sc (.int .i64 (rk l s)), []) := by
  refine does_pure Try.func114 rfl rfl rfl fun w ok G args hA => ?_
  obtain ⟨u, v, rfl, h0, h1⟩ := args2 hA
  obtain rfl := rep_str (own_rep h1 (by intro z r h; cases h) (by intro cs h; cases h))
  rcases rep_strs (own_rep h0 (by intro z r h; cases h) (by intro cs h; cases h)) with ⟨rfl, A, c, rfl⟩ | ⟨b, off, cap, rfl, hc, hb, hcell⟩
  · exact Any.sort_SearchStrings_none Try.searchStrings A c s w
  · have e2 : ∀ i x, l[i]? = some x → (l.toArray)[i]! = x := fun i x hx => by
      have hi := idx_lt hx
      rw [getElem!_pos l.toArray i (by simpa using hi)]
      rw [List.getElem?_eq_getElem hi] at hx
      simpa using hx
    have z := Any.sort_SearchStrings Try.searchStrings b off cap l.toArray s w (fun i hi => by
        obtain ⟨x, hx⟩ := ex_get (by simpa using hi : i < l.length)
        rw [e2 i x hx]; exact hcell i x hx) (hA.inn b hb) (by simp; omega) (fun i j hij hj => by
        obtain ⟨y, hy⟩ := ex_get (by simpa using hj : j < l.length)
        obtain ⟨x, hx⟩ := ex_get (show i < l.length by have := idx_lt hy; omega)
        rw [e2 i x hx, e2 j y hy, ← lts_def, ← lts_def]
        intro q
        cases z : lts y s with
        | false => rfl
        | true => rw [hp i j hij x y hx hy z] at q; exact q)
    simp only [List.size_toArray] at z
    refine z.mono fun e w' hh => ⟨?_, hh.2⟩
    rw [hh.1, ← countP_rk hp]
    congr 4
    funext y
    rw [lts_def]; simp
end Go.Proofs.Ytfanhfmfbfncfaa.Mx

/- Pins. -/
namespace Go.Proofs.Ytfanhfmfbfncfaa.Mx
set_option linter.all false
open Go Go.RowKit Go.Proofs
set_option linter.unusedSimpArgs false
theorem lts_trans {a b c : Str} (h1 : lts a b = true) (h2 : lts b c = true) : lts a c = true := by
  rw [lts_def] at *
  exact decide_eq_true (List.lt_trans (of_decide_eq_true h1) (of_decide_eq_true h2))
theorem asc_get {w : Int} : ∀ {p : Option Str} {l : List Str} {i : Nat} {x : Str}, ascF w p l = true → l[i]? = some x → (x.size : Int) = w ∧ ∀ q, p = some q → lts q x = true
  | _, [], i, x, _, h => by simp at h
  | p, a :: r, 0, x, h, hx => by
    rw [ascF, Bool.and_eq_true, Bool.and_eq_true, decide_eq_true_eq] at h
    simp only [List.getElem?_cons_zero, Option.some.injEq] at hx
    subst hx
    exact ⟨h.1.1, fun q hq => by rw [hq] at h; exact h.1.2⟩
  | p, a :: r, i + 1, x, h, hx => by
    rw [ascF, Bool.and_eq_true, Bool.and_eq_true, decide_eq_true_eq] at h
    have := asc_get h.2 (by simpa using hx)
    exact ⟨this.1, fun q hq => by rw [hq] at h; exact lts_trans h.1.2 (this.2 a rfl)⟩
def E67 : Env := { T := T0, kp := look [(0, [0, 1]), (1, [1, 2]), (2, [1, 2, 6])], dp := look2 [(2, [[], [], [], [2], [2, 3], [1, 2, 3, 4], [1, 2, 3, 4, 5], [1, 2, 3, 4, 5, 6], [1, 2, 3, 4, 5, 6, 7], [1, 2, 3, 4, 5, 6], [1, 2, 3, 4, 5, 6, 7, 8, 9], [1, 2, 3, 4, 5, 6, 7, 8, 9, 10], [1, 2, 3, 4, 5, 6], [1, 2, 3, 4, 5, 6, 7, 8, 9, 10, 11, 12], [1, 2, 3, 4, 5, 6, 7, 8, 9, 10, 11, 12, 13], [0, 1, 2, 3, 4, 5, 6], [0, 1, 2, 3, 4, 5, 6, 7, 8, 9, 10, 11, 12, 13, 14, 15]])] }
attribute [local push_cast] E67
theorem pinned (s : Store) (n : Str) (hs : okStore s) (hp : parts s.P n) : Does Try.prog 67 [.ag (storeC false s), .sc (.string n)] (.tu [.sc (.int .i64 (rk s.P n)), .sc (.bool (hasS s.P n))], []) := by
  refine does_of (E := E67) (rs := [.tmp 4, .tmp 5]) (lent := []) tOk rfl Try.func67 rfl (by decide) rfl rfl (Nat.le_of_ble_eq_true rfl) (Nat.le_of_ble_eq_true rfl) ?_
  have hr := rk_le s.P n
  have hl := hs.2.1
  (simp -dsimp (disch := first | omega | (simp only [List.length_cons, List.length_nil, List.length_map, List.length_append, List.length_take, List.length_drop, List.length_replicate, List.length_set, mkG_len] <;> omega) | fail) only [push_cast, if_pos, decide_eq_true, decide_eq_false, Nat.reduceAdd, Nat.reduceSub, Nat.reduceMul, Nat.reduceBEq, Nat.reduceEqDiff, Nat.reduceLT, Nat.reduceLeDiff, Int.reduceToNat, Int.reduceLE, Int.reduceLT, Int.reduceAdd, Int.reduceSub, Int.reduceMul, Int.reduceEq, Int.reduceNeg, ↓reduceIte, reduceCtorEq]) <;> (repeat (refine (aw_draw (by kernel_rfl)).2 ?_; simp -dsimp (disch := first | omega | (simp only [List.length_cons, List.length_nil, List.length_map, List.length_append, List.length_take, List.length_drop, List.length_replicate, List.length_set, mkG_len] <;> omega) | fail) only [push_cast, if_pos, decide_eq_true, decide_eq_false, Nat.reduceAdd, Nat.reduceSub, Nat.reduceMul, Nat.reduceBEq, Nat.reduceEqDiff, Nat.reduceLT, Nat.reduceLeDiff, Int.reduceToNat, Int.reduceLE, Int.reduceLT, Int.reduceAdd, Int.reduceSub, Int.reduceMul, Int.reduceEq, Int.reduceNeg, ↓reduceIte, reduceCtorEq]))
  refine callC (searchStrings s.P n hl hp) ?_
  by_cases h : rk s.P n < s.P.length
  · obtain ⟨x, hx⟩ := ex_get h
    by_cases e : x = n
    · have hh : hasS s.P n = true := by unfold hasS; rw [hx, e]; simp
      (simp -dsimp (disch := first | omega | (simp only [hx, e, hh, List.length_cons, List.length_nil, List.length_map, List.length_append, List.length_take, List.length_drop, List.length_replicate, List.length_set, mkG_len] <;> omega) | fail) only [push_cast, if_pos, decide_eq_true, decide_eq_false, hx, e, hh, Nat.reduceAdd, Nat.reduceSub, Nat.reduceMul, Nat.reduceBEq, Nat.reduceEqDiff, Nat.reduceLT, Nat.reduceLeDiff, Int.reduceToNat, Int.reduceLE, Int.reduceLT, Int.reduceAdd, Int.reduceSub, Int.reduceMul, Int.reduceEq, Int.reduceNeg, ↓reduceIte, reduceCtorEq]) <;> (repeat (refine (aw_draw (by kernel_rfl)).2 ?_; simp -dsimp (disch := first | omega | (simp only [hx, e, hh, List.length_cons, List.length_nil, List.length_map, List.length_append, List.length_take, List.length_drop, List.length_replicate, List.length_set, mkG_len] <;> omega) | fail) only [push_cast, if_pos, decide_eq_true, decide_eq_false, hx, e, hh, Nat.reduceAdd, Nat.reduceSub, Nat.reduceMul, Nat.reduceBEq, Nat.reduceEqDiff, Nat.reduceLT, Nat.reduceLeDiff, Int.reduceToNat, Int.reduceLE, Int.reduceLT, Int.reduceAdd, Int.reduceSub, Int.reduceMul, Int.reduceEq, Int.reduceNeg, ↓reduceIte, reduceCtorEq]))
    · have hh : hasS s.P n = false := by unfold hasS; rw [hx]; simp [e]
      (simp -dsimp (disch := first | omega | (simp only [hx, e, hh, List.length_cons, List.length_nil, List.length_map, List.length_append, List.length_take, List.length_drop, List.length_replicate, List.length_set, mkG_len] <;> omega) | fail) only [push_cast, if_pos, decide_eq_true, decide_eq_false, hx, e, hh, Nat.reduceAdd, Nat.reduceSub, Nat.reduceMul, Nat.reduceBEq, Nat.reduceEqDiff, Nat.reduceLT, Nat.reduceLeDiff, Int.reduceToNat, Int.reduceLE, Int.reduceLT, Int.reduceAdd, Int.reduceSub, Int.reduceMul, Int.reduceEq, Int.reduceNeg, ↓reduceIte, reduceCtorEq]) <;> (repeat (refine (aw_draw (by kernel_rfl)).2 ?_; simp -dsimp (disch := first | omega | (simp only [hx, e, hh, List.length_cons, List.length_nil, List.length_map, List.length_append, List.length_take, List.length_drop, List.length_replicate, List.length_set, mkG_len] <;> omega) | fail) only [push_cast, if_pos, decide_eq_true, decide_eq_false, hx, e, hh, Nat.reduceAdd, Nat.reduceSub, Nat.reduceMul, Nat.reduceBEq, Nat.reduceEqDiff, Nat.reduceLT, Nat.reduceLeDiff, Int.reduceToNat, Int.reduceLE, Int.reduceLT, Int.reduceAdd, Int.reduceSub, Int.reduceMul, Int.reduceEq, Int.reduceNeg, ↓reduceIte, reduceCtorEq]))
  · have hh : hasS s.P n = false := by unfold hasS; rw [List.getElem?_eq_none (by omega)]; simp
    (simp -dsimp (disch := first | omega | (simp only [hh, List.length_cons, List.length_nil, List.length_map, List.length_append, List.length_take, List.length_drop, List.length_replicate, List.length_set, mkG_len] <;> omega) | fail) only [push_cast, if_pos, decide_eq_true, decide_eq_false, hh, Nat.reduceAdd, Nat.reduceSub, Nat.reduceMul, Nat.reduceBEq, Nat.reduceEqDiff, Nat.reduceLT, Nat.reduceLeDiff, Int.reduceToNat, Int.reduceLE, Int.reduceLT, Int.reduceAdd, Int.reduceSub, Int.reduceMul, Int.reduceEq, Int.reduceNeg, ↓reduceIte, reduceCtorEq]) <;> (repeat (refine (aw_draw (by kernel_rfl)).2 ?_; simp -dsimp (disch := first | omega | (simp only [hh, List.length_cons, List.length_nil, List.length_map, List.length_append, List.length_take, List.length_drop, List.length_replicate, List.length_set, mkG_len] <;> omega) | fail) only [push_cast, if_pos, decide_eq_true, decide_eq_false, hh, Nat.reduceAdd, Nat.reduceSub, Nat.reduceMul, Nat.reduceBEq, Nat.reduceEqDiff, Nat.reduceLT, Nat.reduceLeDiff, Int.reduceToNat, Int.reduceLE, Int.reduceLT, Int.reduceAdd, Int.reduceSub, Int.reduceMul, Int.reduceEq, Int.reduceNeg, ↓reduceIte, reduceCtorEq]))
end Go.Proofs.Ytfanhfmfbfncfaa.Mx

/- NewFetch, of the program and of the reference. -/
namespace Go.Proofs.Ytfanhfmfbfncfaa.Mx
set_option linter.all false
open Go Go.RowKit Go.Proofs
set_option linter.unusedSimpArgs false
def newRow : Row := [.sc (.int .i64 0), .sc (.int .i64 0), .sc (.int .i64 (-1)), .sc (.string ⟨#[]⟩), .sl true 1 []]
end Go.Proofs.Ytfanhfmfbfncfaa.Mx

/- Sets that differ: what is there, notes. -/
namespace Go.Proofs.Ytfanhfmfbfncfaa.Mx
set_option linter.all false
open Go Go.RowKit
def inT (fr to x : Str) : Bool := !lts x fr && (decide (to = em) || lts x to)
def thr (l : List Str) (fr to : Str) : List Str := l.filter (inT fr to)
def minusS (a b : List Str) : List Str := a.filter fun x => !inL b x
def jb (l : List Str) : List UInt8 := l.flatMap bt
def mixS (l : List Str) (w : Int) : Str := sumS ⟨(jb l).toArray⟩ w
def setB (l : List Str) (w : Int) : Bool := inB w 1 8 && decide (l.length ≤ 500) && ascF w none l
def emN : Note := ⟨em, em, 0, em, false, []⟩
def tellN (l : List Str) (fr to : Str) (w : Int) : Note := if setB l w = true then ⟨fr, to, (thr l fr to).length, mixS (thr l fr to) w, false, []⟩ else emN
/-- is the note a right one? -/
def noteB (l : List Str) (n : Note) (w : Int) : Bool :=
  setB l w && (decide (n.to = em) || lts n.fr n.to) && decide (0 ≤ n.n) &&
  (bif n.has then decide (n.n = 0) && decide (n.mix = em) && setB n.S w && decide ((thr n.S n.fr n.to).length = n.S.length) else decide (n.S.length = 0))
def hearN (l : List Str) (n : Note) (w : Int) : List Note × List Str × List Str :=
  if noteB l n w = false then ([], [], []) else
  if n.has = true then ([], minusS n.S (thr l n.fr n.to), minusS (thr l n.fr n.to) n.S) else
  if (thr l n.fr n.to).length = n.n ∧ mixS (thr l n.fr n.to) w = n.mix then ([], [], []) else
  if n.n ≤ 4 ∨ (thr l n.fr n.to).length ≤ 4 then ([⟨n.fr, n.to, 0, em, true, thr l n.fr n.to⟩], [], []) else
  ([tellN l n.fr ((thr l n.fr n.to).getD ((thr l n.fr n.to).length / 2) em) w, tellN l ((thr l n.fr n.to).getD ((thr l n.fr n.to).length / 2) em) n.to w], [], [])
theorem filter_step {α : Type} {p : α → Bool} {l : List α} {i : Nat} {x : α} (h : l[i]? = some x) : (l.take (i + 1)).filter p = (l.take i).filter p ++ (bif p x then [x] else []) := by
  rw [take_step h, List.filter_append]
  cases hp : p x <;> simp [hp]
theorem thr_len (l : List Str) (fr to : Str) : (thr l fr to).length ≤ l.length := List.length_filter_le ..
theorem jb_app (a b : List Str) : jb (a ++ b) = jb a ++ jb b := List.flatMap_append ..
theorem jb_one (x : Str) : jb [x] = bt x := by simp [jb]
theorem jb_len {l : List Str} {B : Nat} (h : ∀ x ∈ l, x.size ≤ B) : (jb l).length ≤ l.length * B := by
  induction l with
  | nil => simp [jb]
  | cons a r ih =>
    have := ih fun x hx => h x (List.mem_cons_of_mem _ hx)
    have h2 := h a (List.mem_cons_self ..)
    show (bt a ++ jb r).length ≤ _
    rw [List.length_append, bt_len, List.length_cons, Nat.add_mul]
    omega
/-! a map that holds texts -/
def mset (l : List Str) : List (Value × Value) := l.foldl (fun es x => kset es (.string x) (.bool true)) []
theorem kget_kset (es : List (Value × Value)) (x y : Str) (u : Value) : kget (kset es (.string x) u) (.string y) = if x = y then some u else kget es (.string y) := by
  induction es with
  | nil => by_cases h : x = y <;> simp [kset, kget, keq, eqs, h, eq_comm]
  | cons e r ih =>
    obtain ⟨k, v⟩ := e
    rw [kset, kget]
    cases hk : keq k (.string x) with
    | true =>
      rw [cond_true, kget]
      cases k <;> simp only [keq] at hk <;> try (cases hk; done)
      rename_i a
      have : x = a := by simpa [eqs] using hk
      subst this
      by_cases h : x = y
      · subst h; simp [keq, eqs]
      · have h3 : ¬ y = x := fun e => h e.symm
        simp [keq, eqs, h, h3]
    | false =>
      rw [cond_false, kget, ih]
      by_cases h : x = y
      · subst h
        rw [hk]; simp
      · simp [h]
theorem mset_get (l : List Str) (y : Str) : kget (mset l) (.string y) = if inL l y = true then some (.bool true) else none := by
  unfold mset
  have : ∀ (l : List Str) (es : List (Value × Value)), kget (l.foldl (fun es x => kset es (.string x) (.bool true)) es) (.string y) = if inL l y = true then some (.bool true) else kget es (.string y) := fun l => by
    induction l with
    | nil => intro es; simp [inL]
    | cons a r ih =>
      intro es
      rw [List.foldl_cons, ih, kget_kset]
      by_cases h1 : inL r y = true
      · have : inL (a :: r) y = true := by unfold inL at h1 ⊢; rw [List.any_cons, h1]; simp
        rw [if_pos h1, if_pos this]
      · rw [if_neg h1]
        by_cases h2 : a = y
        · have : inL (a :: r) y = true := by unfold inL; rw [List.any_cons]; simp [h2]
          rw [if_pos h2, if_pos this]
        · have : ¬ inL (a :: r) y = true := by unfold inL at h1 ⊢; rw [List.any_cons]; simp [h2]; simpa using h1
          rw [if_neg h2, if_neg this]
  rw [this]; rfl
theorem mset_step {l : List Str} {i : Nat} {x : Str} (h : l[i]? = some x) : mset (l.take (i + 1)) = kset (mset (l.take i)) (.string x) (.bool true) := by
  unfold mset; rw [take_step h, List.foldl_append]; rfl
def mok (es : List (Value × Value)) : Bool := es.all fun e => (match e.1 with | .string _ => true | _ => false) && (match e.2 with | .bool _ => true | _ => false)
theorem mok_kset {es : List (Value × Value)} (h : mok es = true) (x : Str) (b : Bool) : mok (kset es (.string x) (.bool b)) = true := by
  induction es with
  | nil => rfl
  | cons e r ih =>
    obtain ⟨k, v⟩ := e
    unfold mok at h ih ⊢
    rw [List.all_cons, Bool.and_eq_true] at h
    rw [kset]
    cases hk : keq k (.string x) with
    | true => rw [cond_true, List.all_cons, h.2]; simp at h ⊢; exact h.1.1
    | false => rw [cond_false, List.all_cons, ih h.2, h.1]; rfl
theorem mset_mok (l : List Str) : mok (mset l) = true := by
  unfold mset
  have : ∀ (l : List Str) (es : List (Value × Value)), mok es = true → mok (l.foldl (fun es x => kset es (.string x) (.bool true)) es) = true := fun l => by
    induction l with
    | nil => intro es h; exact h
    | cons a r ih => intro es h; exact ih _ (mok_kset h a true)
  exact this l [] rfl
theorem mok_kok {es : List (Value × Value)} (h : mok es = true) : kok .str es = true ∧ es.all (fun e => plain e.2) = true := by
  unfold mok at h
  unfold kok
  rw [List.all_eq_true] at h ⊢
  rw [List.all_eq_true]
  constructor
  · intro e he
    have := h e he
    obtain ⟨k, v⟩ := e
    cases k <;> simp at this ⊢
    simp [kkey]
  · intro e he
    have := h e he
    obtain ⟨k, v⟩ := e
    cases v <;> simp at this ⊢
    simp [plain]
end Go.Proofs.Ytfanhfmfbfncfaa.Mx

/- Sets that differ: the reference's. -/
namespace Go.Proofs.Ytfanhfmfbfncfaa.Mx
set_option linter.all false
open Go Go.RowKit Go.Proofs
set_option linter.unusedSimpArgs false
def E92 : Env := { T := T0, kp := look [(0, [0, 1]), (1, [0, 1]), (2, []), (3, [0, 1]), (4, [0, 1, 5]), (5, [0, 1, 5]), (6, [0, 1, 5]), (7, []), (8, [])], dp := look2 [(6, [[], [], [0, 1], [0, 1, 2], [0, 1, 2, 3], [], [0, 1, 2, 3, 4, 5], [0, 1, 2, 3, 4, 5, 6], [0, 1, 2, 3, 4, 5, 6, 7], [0, 1, 2, 3, 4, 5, 6, 7, 8], [0, 1, 2, 3, 4, 5, 6, 7, 8, 9], [0, 1, 2, 3, 4, 5, 6, 7, 8, 9, 10], [0, 1, 2, 3, 4, 5, 6, 7, 8, 9, 10], [0, 1, 2, 3, 4, 5, 6, 7, 8, 9, 10, 12], [0, 1, 2, 3, 4, 5, 6, 7, 8, 9, 10, 11, 12, 13], [0, 1, 2, 3, 4, 5, 6, 7, 8, 9, 10, 11, 12, 13, 14], [0, 1, 2, 3, 4, 5, 6, 7, 8, 9, 10], [0, 1, 2, 3, 4, 5, 6, 7, 8, 9, 10], [0, 1, 2, 3, 4, 5, 6, 7, 8, 9, 10, 16, 17], [0, 1, 2, 3, 4, 5, 6, 7, 8, 9, 10, 16, 17, 18], [0, 1, 2, 3, 4, 5, 6, 7, 8, 9, 10, 11, 12, 13, 14, 15, 16, 17, 18, 19], [0, 1, 2, 3, 4, 5, 6, 7, 8, 9, 10, 11, 12, 13, 14, 15, 16, 17, 18, 19, 20], [0, 1, 2, 3, 4, 5, 6, 7, 8, 9, 10, 11, 12, 13, 14, 15, 16, 17, 18, 19, 20, 21]])] }
attribute [local push_cast] E92
theorem l6Set (l : List Str) (w : Int) (hl : l.length ≤ 2097152) : Does Try.prog 92 [.sl false 1 (l.map strR), .sc (.int .i64 w)] (.sc (.bool (setB l w)), []) := by
  refine does_of (E := E92) (rs := [.tmp 4]) (lent := []) tOk rfl Try.func92 rfl (by decide) rfl rfl (Nat.le_of_ble_eq_true rfl) (Nat.le_of_ble_eq_true rfl) ?_
  (simp -dsimp (disch := first | omega | (simp only [List.length_cons, List.length_nil, List.length_map, List.length_append, List.length_take, List.length_drop, List.length_replicate, List.length_set, mkG_len] <;> omega) | fail) only [push_cast, if_pos, decide_eq_true, decide_eq_false, Nat.reduceAdd, Nat.reduceSub, Nat.reduceMul, Nat.reduceBEq, Nat.reduceEqDiff, Nat.reduceLT, Nat.reduceLeDiff, Int.reduceToNat, Int.reduceLE, Int.reduceLT, Int.reduceAdd, Int.reduceSub, Int.reduceMul, Int.reduceEq, Int.reduceNeg, ↓reduceIte, reduceCtorEq]) <;> (repeat (refine (aw_draw (by kernel_rfl)).2 ?_; simp -dsimp (disch := first | omega | (simp only [List.length_cons, List.length_nil, List.length_map, List.length_append, List.length_take, List.length_drop, List.length_replicate, List.length_set, mkG_len] <;> omega) | fail) only [push_cast, if_pos, decide_eq_true, decide_eq_false, Nat.reduceAdd, Nat.reduceSub, Nat.reduceMul, Nat.reduceBEq, Nat.reduceEqDiff, Nat.reduceLT, Nat.reduceLeDiff, Int.reduceToNat, Int.reduceLE, Int.reduceLT, Int.reduceAdd, Int.reduceSub, Int.reduceMul, Int.reduceEq, Int.reduceNeg, ↓reduceIte, reduceCtorEq]))
  refine callC (l1Width ..) ?_
  cases c1 : inB w 1 8 with
  | false =>
    have hv : setB l w = false := by simp [setB, c1]
    (simp -dsimp (disch := first | omega | (simp only [hv, List.length_cons, List.length_nil, List.length_map, List.length_append, List.length_take, List.length_drop, List.length_replicate, List.length_set, mkG_len] <;> omega) | fail) only [push_cast, if_pos, decide_eq_true, decide_eq_false, hv, Nat.reduceAdd, Nat.reduceSub, Nat.reduceMul, Nat.reduceBEq, Nat.reduceEqDiff, Nat.reduceLT, Nat.reduceLeDiff, Int.reduceToNat, Int.reduceLE, Int.reduceLT, Int.reduceAdd, Int.reduceSub, Int.reduceMul, Int.reduceEq, Int.reduceNeg, ↓reduceIte, reduceCtorEq]) <;> (repeat (refine (aw_draw (by kernel_rfl)).2 ?_; simp -dsimp (disch := first | omega | (simp only [hv, List.length_cons, List.length_nil, List.length_map, List.length_append, List.length_take, List.length_drop, List.length_replicate, List.length_set, mkG_len] <;> omega) | fail) only [push_cast, if_pos, decide_eq_true, decide_eq_false, hv, Nat.reduceAdd, Nat.reduceSub, Nat.reduceMul, Nat.reduceBEq, Nat.reduceEqDiff, Nat.reduceLT, Nat.reduceLeDiff, Int.reduceToNat, Int.reduceLE, Int.reduceLT, Int.reduceAdd, Int.reduceSub, Int.reduceMul, Int.reduceEq, Int.reduceNeg, ↓reduceIte, reduceCtorEq]))
  | true =>
  by_cases c2 : l.length ≤ 500
  rotate_left
  · have hv : setB l w = false := by simp [setB, c2]
    (simp -dsimp (disch := first | omega | (simp only [hv, List.length_cons, List.length_nil, List.length_map, List.length_append, List.length_take, List.length_drop, List.length_replicate, List.length_set, mkG_len] <;> omega) | fail) only [push_cast, if_pos, decide_eq_true, decide_eq_false, hv, Nat.reduceAdd, Nat.reduceSub, Nat.reduceMul, Nat.reduceBEq, Nat.reduceEqDiff, Nat.reduceLT, Nat.reduceLeDiff, Int.reduceToNat, Int.reduceLE, Int.reduceLT, Int.reduceAdd, Int.reduceSub, Int.reduceMul, Int.reduceEq, Int.reduceNeg, ↓reduceIte, reduceCtorEq]) <;> (repeat (refine (aw_draw (by kernel_rfl)).2 ?_; simp -dsimp (disch := first | omega | (simp only [hv, List.length_cons, List.length_nil, List.length_map, List.length_append, List.length_take, List.length_drop, List.length_replicate, List.length_set, mkG_len] <;> omega) | fail) only [push_cast, if_pos, decide_eq_true, decide_eq_false, hv, Nat.reduceAdd, Nat.reduceSub, Nat.reduceMul, Nat.reduceBEq, Nat.reduceEqDiff, Nat.reduceLT, Nat.reduceLeDiff, Int.reduceToNat, Int.reduceLE, Int.reduceLT, Int.reduceAdd, Int.reduceSub, Int.reduceMul, Int.reduceEq, Int.reduceNeg, ↓reduceIte, reduceCtorEq]))
  rw [show setB l w = ascF w none l by simp [setB, c1, c2]]
  generalize hM : ascF w none l = M
  (simp -dsimp (disch := first | omega | (simp only [List.length_cons, List.length_nil, List.length_map, List.length_append, List.length_take, List.length_drop, List.length_replicate, List.length_set, mkG_len] <;> omega) | fail) only [push_cast, if_pos, decide_eq_true, decide_eq_false, Nat.reduceAdd, Nat.reduceSub, Nat.reduceMul, Nat.reduceBEq, Nat.reduceEqDiff, Nat.reduceLT, Nat.reduceLeDiff, Int.reduceToNat, Int.reduceLE, Int.reduceLT, Int.reduceAdd, Int.reduceSub, Int.reduceMul, Int.reduceEq, Int.reduceNeg, ↓reduceIte, reduceCtorEq]) <;> (repeat (refine (aw_draw (by kernel_rfl)).2 ?_; simp -dsimp (disch := first | omega | (simp only [List.length_cons, List.length_nil, List.length_map, List.length_append, List.length_take, List.length_drop, List.length_replicate, List.length_set, mkG_len] <;> omega) | fail) only [push_cast, if_pos, decide_eq_true, decide_eq_false, Nat.reduceAdd, Nat.reduceSub, Nat.reduceMul, Nat.reduceBEq, Nat.reduceEqDiff, Nat.reduceLT, Nat.reduceLeDiff, Int.reduceToNat, Int.reduceLE, Int.reduceLT, Int.reduceAdd, Int.reduceSub, Int.reduceMul, Int.reduceEq, Int.reduceNeg, ↓reduceIte, reduceCtorEq]))
  refine loop_ind (α := Nat) (fun i => i ≤ l.length ∧ ascF w (bif i == 0 then none else l[i - 1]?) (l.drop i) = M) (fun i => ⟨[(0, .sl false 1 (l.map strR)), (1, .sc (.int .i64 w)), (5, .sc (.int .i64 i))], [], 1⟩) (fun i => l.length - i) 0 ⟨Nat.zero_le _, hM⟩ ?_ ?_
  · simp -dsimp (disch := first | omega | (simp only [List.length_cons, List.length_nil, List.length_map, List.length_append, List.length_take, List.length_drop, List.length_replicate, List.length_set, mkG_len] <;> omega) | fail) only [push_cast, if_pos, decide_eq_true, decide_eq_false, Nat.reduceAdd, Nat.reduceSub, Nat.reduceMul, Nat.reduceBEq, Nat.reduceEqDiff, Nat.reduceLT, Nat.reduceLeDiff, Int.reduceToNat, Int.reduceLE, Int.reduceLT, Int.reduceAdd, Int.reduceSub, Int.reduceMul, Int.reduceEq, Int.reduceNeg, ↓reduceIte, reduceCtorEq]
  rintro i ⟨hi, hy⟩ ih
  by_cases h : i < l.length
  · obtain ⟨s, hx⟩ := ex_get h
    rw [drop_step hx, ascF] at hy
    have hs : ∀ P, (bif i + 1 == 0 then none else l[i + 1 - 1]?) = P → P = some s := fun P e => by rw [← e, show (i + 1 == 0) = false by simp, cond_false, Nat.add_sub_cancel, hx]
    by_cases e1 : (s.size : Int) = w
    rotate_left
    · rw [show decide ((s.size : Int) = w) = false by simp [e1], Bool.false_and, Bool.false_and] at hy
      (simp -dsimp (disch := first | omega | (simp only [hx, e1, ← hy, List.length_cons, List.length_nil, List.length_map, List.length_append, List.length_take, List.length_drop, List.length_replicate, List.length_set, mkG_len] <;> omega) | fail) only [push_cast, if_pos, decide_eq_true, decide_eq_false, hx, e1, ← hy, Nat.reduceAdd, Nat.reduceSub, Nat.reduceMul, Nat.reduceBEq, Nat.reduceEqDiff, Nat.reduceLT, Nat.reduceLeDiff, Int.reduceToNat, Int.reduceLE, Int.reduceLT, Int.reduceAdd, Int.reduceSub, Int.reduceMul, Int.reduceEq, Int.reduceNeg, ↓reduceIte, reduceCtorEq]) <;> (repeat (refine (aw_draw (by kernel_rfl)).2 ?_; simp -dsimp (disch := first | omega | (simp only [hx, e1, ← hy, List.length_cons, List.length_nil, List.length_map, List.length_append, List.length_take, List.length_drop, List.length_replicate, List.length_set, mkG_len] <;> omega) | fail) only [push_cast, if_pos, decide_eq_true, decide_eq_false, hx, e1, ← hy, Nat.reduceAdd, Nat.reduceSub, Nat.reduceMul, Nat.reduceBEq, Nat.reduceEqDiff, Nat.reduceLT, Nat.reduceLeDiff, Int.reduceToNat, Int.reduceLE, Int.reduceLT, Int.reduceAdd, Int.reduceSub, Int.reduceMul, Int.reduceEq, Int.reduceNeg, ↓reduceIte, reduceCtorEq]))
    rw [show decide ((s.size : Int) = w) = true by simp [e1], Bool.true_and] at hy
    by_cases e2 : i = 0
    · subst e2
      rw [show aft (bif 0 == 0 then none else l[0 - 1]?) s = true from rfl, Bool.true_and] at hy
      (simp -dsimp (disch := first | omega | (simp only [hx, e1, List.length_cons, List.length_nil, List.length_map, List.length_append, List.length_take, List.length_drop, List.length_replicate, List.length_set, mkG_len] <;> omega) | fail) only [push_cast, if_pos, decide_eq_true, decide_eq_false, hx, e1, Nat.reduceAdd, Nat.reduceSub, Nat.reduceMul, Nat.reduceBEq, Nat.reduceEqDiff, Nat.reduceLT, Nat.reduceLeDiff, Int.reduceToNat, Int.reduceLE, Int.reduceLT, Int.reduceAdd, Int.reduceSub, Int.reduceMul, Int.reduceEq, Int.reduceNeg, ↓reduceIte, reduceCtorEq]) <;> (repeat (refine (aw_draw (by kernel_rfl)).2 ?_; simp -dsimp (disch := first | omega | (simp only [hx, e1, List.length_cons, List.length_nil, List.length_map, List.length_append, List.length_take, List.length_drop, List.length_replicate, List.length_set, mkG_len] <;> omega) | fail) only [push_cast, if_pos, decide_eq_true, decide_eq_false, hx, e1, Nat.reduceAdd, Nat.reduceSub, Nat.reduceMul, Nat.reduceBEq, Nat.reduceEqDiff, Nat.reduceLT, Nat.reduceLeDiff, Int.reduceToNat, Int.reduceLE, Int.reduceLT, Int.reduceAdd, Int.reduceSub, Int.reduceMul, Int.reduceEq, Int.reduceNeg, ↓reduceIte, reduceCtorEq]))
      refine ih 1 _ (by omega) ⟨h, by rw [hs _ rfl]; exact hy⟩ ?_
      simp -dsimp (disch := first | omega | (simp only [wr_id, List.length_cons, List.length_nil, List.length_map, List.length_append, List.length_take, List.length_drop, List.length_replicate, List.length_set, mkG_len] <;> omega) | fail) only [push_cast, if_pos, decide_eq_true, decide_eq_false, wr_id, Nat.reduceAdd, Nat.reduceSub, Nat.reduceMul, Nat.reduceBEq, Nat.reduceEqDiff, Nat.reduceLT, Nat.reduceLeDiff, Int.reduceToNat, Int.reduceLE, Int.reduceLT, Int.reduceAdd, Int.reduceSub, Int.reduceMul, Int.reduceEq, Int.reduceNeg, ↓reduceIte, reduceCtorEq]
    · obtain ⟨q, hq⟩ := ex_get (show i - 1 < l.length by omega)
      rw [show (bif i == 0 then none else l[i - 1]?) = some q by rw [show (i == 0) = false by simp [e2]]; exact hq, show aft (some q) s = lts q s from rfl] at hy
      have e3 : ((i : Int) - 1).toNat = i - 1 := by omega
      cases e4 : lts q s with
      | false =>
        rw [e4, Bool.false_and] at hy
        (simp -dsimp (disch := first | omega | (simp only [hx, hq, e1, e3, wr_id, e4, ← hy, List.length_cons, List.length_nil, List.length_map, List.length_append, List.length_take, List.length_drop, List.length_replicate, List.length_set, mkG_len] <;> omega) | fail) only [push_cast, if_pos, decide_eq_true, decide_eq_false, hx, hq, e1, e3, wr_id, e4, ← hy, Nat.reduceAdd, Nat.reduceSub, Nat.reduceMul, Nat.reduceBEq, Nat.reduceEqDiff, Nat.reduceLT, Nat.reduceLeDiff, Int.reduceToNat, Int.reduceLE, Int.reduceLT, Int.reduceAdd, Int.reduceSub, Int.reduceMul, Int.reduceEq, Int.reduceNeg, ↓reduceIte, reduceCtorEq]) <;> (repeat (refine (aw_draw (by kernel_rfl)).2 ?_; simp -dsimp (disch := first | omega | (simp only [hx, hq, e1, e3, wr_id, e4, ← hy, List.length_cons, List.length_nil, List.length_map, List.length_append, List.length_take, List.length_drop, List.length_replicate, List.length_set, mkG_len] <;> omega) | fail) only [push_cast, if_pos, decide_eq_true, decide_eq_false, hx, hq, e1, e3, wr_id, e4, ← hy, Nat.reduceAdd, Nat.reduceSub, Nat.reduceMul, Nat.reduceBEq, Nat.reduceEqDiff, Nat.reduceLT, Nat.reduceLeDiff, Int.reduceToNat, Int.reduceLE, Int.reduceLT, Int.reduceAdd, Int.reduceSub, Int.reduceMul, Int.reduceEq, Int.reduceNeg, ↓reduceIte, reduceCtorEq]))
      | true =>
        rw [e4, Bool.true_and] at hy
        (simp -dsimp (disch := first | omega | (simp only [hx, hq, e1, e3, wr_id, e4, List.length_cons, List.length_nil, List.length_map, List.length_append, List.length_take, List.length_drop, List.length_replicate, List.length_set, mkG_len] <;> omega) | fail) only [push_cast, if_pos, decide_eq_true, decide_eq_false, hx, hq, e1, e3, wr_id, e4, Nat.reduceAdd, Nat.reduceSub, Nat.reduceMul, Nat.reduceBEq, Nat.reduceEqDiff, Nat.reduceLT, Nat.reduceLeDiff, Int.reduceToNat, Int.reduceLE, Int.reduceLT, Int.reduceAdd, Int.reduceSub, Int.reduceMul, Int.reduceEq, Int.reduceNeg, ↓reduceIte, reduceCtorEq]) <;> (repeat (refine (aw_draw (by kernel_rfl)).2 ?_; simp -dsimp (disch := first | omega | (simp only [hx, hq, e1, e3, wr_id, e4, List.length_cons, List.length_nil, List.length_map, List.length_append, List.length_take, List.length_drop, List.length_replicate, List.length_set, mkG_len] <;> omega) | fail) only [push_cast, if_pos, decide_eq_true, decide_eq_false, hx, hq, e1, e3, wr_id, e4, Nat.reduceAdd, Nat.reduceSub, Nat.reduceMul, Nat.reduceBEq, Nat.reduceEqDiff, Nat.reduceLT, Nat.reduceLeDiff, Int.reduceToNat, Int.reduceLE, Int.reduceLT, Int.reduceAdd, Int.reduceSub, Int.reduceMul, Int.reduceEq, Int.reduceNeg, ↓reduceIte, reduceCtorEq]))
        refine ih (i + 1) _ (by omega) ⟨h, by rw [hs _ rfl]; exact hy⟩ ?_
        simp -dsimp (disch := first | omega | (simp only [wr_id, List.length_cons, List.length_nil, List.length_map, List.length_append, List.length_take, List.length_drop, List.length_replicate, List.length_set, mkG_len] <;> omega) | fail) only [push_cast, if_pos, decide_eq_true, decide_eq_false, wr_id, Nat.reduceAdd, Nat.reduceSub, Nat.reduceMul, Nat.reduceBEq, Nat.reduceEqDiff, Nat.reduceLT, Nat.reduceLeDiff, Int.reduceToNat, Int.reduceLE, Int.reduceLT, Int.reduceAdd, Int.reduceSub, Int.reduceMul, Int.reduceEq, Int.reduceNeg, ↓reduceIte, reduceCtorEq]
  · rw [List.drop_eq_nil_of_le (by omega), ascF] at hy
    (simp -dsimp (disch := first | omega | (simp only [← hy, List.length_cons, List.length_nil, List.length_map, List.length_append, List.length_take, List.length_drop, List.length_replicate, List.length_set, mkG_len] <;> omega) | fail) only [push_cast, if_pos, decide_eq_true, decide_eq_false, ← hy, Nat.reduceAdd, Nat.reduceSub, Nat.reduceMul, Nat.reduceBEq, Nat.reduceEqDiff, Nat.reduceLT, Nat.reduceLeDiff, Int.reduceToNat, Int.reduceLE, Int.reduceLT, Int.reduceAdd, Int.reduceSub, Int.reduceMul, Int.reduceEq, Int.reduceNeg, ↓reduceIte, reduceCtorEq]) <;> (repeat (refine (aw_draw (by kernel_rfl)).2 ?_; simp -dsimp (disch := first | omega | (simp only [← hy, List.length_cons, List.length_nil, List.length_map, List.length_append, List.length_take, List.length_drop, List.length_replicate, List.length_set, mkG_len] <;> omega) | fail) only [push_cast, if_pos, decide_eq_true, decide_eq_false, ← hy, Nat.reduceAdd, Nat.reduceSub, Nat.reduceMul, Nat.reduceBEq, Nat.reduceEqDiff, Nat.reduceLT, Nat.reduceLeDiff, Int.reduceToNat, Int.reduceLE, Int.reduceLT, Int.reduceAdd, Int.reduceSub, Int.reduceMul, Int.reduceEq, Int.reduceNeg, ↓reduceIte, reduceCtorEq]))
def E72 : Env := { T := T0, kp := look [(0, [0, 1, 2]), (1, [0, 1, 2]), (2, [0, 1, 2, 7]), (3, [0, 1, 2, 7, 8]), (4, [0, 1, 2, 7, 8]), (5, [0, 1, 2, 7, 8]), (6, [0, 1, 2, 7, 8]), (7, [7])] }
attribute [local push_cast] E72
theorem l6There (l : List Str) (fr to : Str) (hl : l.length ≤ 2097152) : Does Try.prog 72 [.sl false 1 (l.map strR), .sc (.string fr), .sc (.string to)] (.sl true 1 ((thr l fr to).map strR), []) := by
  refine does_of (E := E72) (rs := [.tmp 6]) (lent := []) tOk rfl Try.func72 rfl (by decide) rfl rfl (Nat.le_of_ble_eq_true rfl) (Nat.le_of_ble_eq_true rfl) ?_
  obtain ⟨M, hM⟩ : ∃ M, M = thr l fr to := ⟨_, rfl⟩
  rw [← hM]
  simp -dsimp (disch := first | omega | (simp only [List.length_cons, List.length_nil, List.length_map, List.length_append, List.length_take, List.length_drop, List.length_replicate, List.length_set, mkG_len] <;> omega) | fail) only [push_cast, if_pos, decide_eq_true, decide_eq_false, Nat.reduceAdd, Nat.reduceSub, Nat.reduceMul, Nat.reduceBEq, Nat.reduceEqDiff, Nat.reduceLT, Nat.reduceLeDiff, Int.reduceToNat, Int.reduceLE, Int.reduceLT, Int.reduceAdd, Int.reduceSub, Int.reduceMul, Int.reduceEq, Int.reduceNeg, ↓reduceIte, reduceCtorEq]
  refine loop_ind (α := Nat) (fun i => i ≤ l.length) (fun i => ⟨[(0, .sl false 1 (l.map strR)), (1, .sc (.string fr)), (2, .sc (.string to)), (7, .ow 1 0 (thr (l.take i) fr to).length), (8, .sc (.int .i64 i))], [(1, .ar 1 0 ((thr (l.take i) fr to).map strR))], 2⟩) (fun i => l.length - i) 0 (Nat.zero_le _) ?_ ?_
  · simp -dsimp (disch := first | omega | (simp only [thr, List.take_zero, List.filter_nil, List.length_cons, List.length_nil, List.length_map, List.length_append, List.length_take, List.length_drop, List.length_replicate, List.length_set, mkG_len] <;> omega) | fail) only [push_cast, if_pos, decide_eq_true, decide_eq_false, thr, List.take_zero, List.filter_nil, Nat.reduceAdd, Nat.reduceSub, Nat.reduceMul, Nat.reduceBEq, Nat.reduceEqDiff, Nat.reduceLT, Nat.reduceLeDiff, Int.reduceToNat, Int.reduceLE, Int.reduceLT, Int.reduceAdd, Int.reduceSub, Int.reduceMul, Int.reduceEq, Int.reduceNeg, ↓reduceIte, reduceCtorEq]
  intro i hi ih
  by_cases h : i < l.length
  · obtain ⟨x, hx⟩ := ex_get h
    have hst : thr (l.take (i + 1)) fr to = thr (l.take i) fr to ++ (bif inT fr to x then [x] else []) := filter_step hx
    have hlen := thr_len (l.take i) fr to
    rw [List.length_take] at hlen
    cases e1 : lts x fr with
    | true =>
      rw [show inT fr to x = false by simp [inT, e1], cond_false, List.append_nil] at hst
      simp -dsimp (disch := first | omega | (simp only [hx, e1, List.length_cons, List.length_nil, List.length_map, List.length_append, List.length_take, List.length_drop, List.length_replicate, List.length_set, mkG_len] <;> omega) | fail) only [push_cast, if_pos, decide_eq_true, decide_eq_false, hx, e1, Nat.reduceAdd, Nat.reduceSub, Nat.reduceMul, Nat.reduceBEq, Nat.reduceEqDiff, Nat.reduceLT, Nat.reduceLeDiff, Int.reduceToNat, Int.reduceLE, Int.reduceLT, Int.reduceAdd, Int.reduceSub, Int.reduceMul, Int.reduceEq, Int.reduceNeg, ↓reduceIte, reduceCtorEq]
      refine ih (i + 1) _ (by omega) h ?_
      simp -dsimp (disch := first | omega | (simp only [wr_id, hst, List.length_cons, List.length_nil, List.length_map, List.length_append, List.length_take, List.length_drop, List.length_replicate, List.length_set, mkG_len] <;> omega) | fail) only [push_cast, if_pos, decide_eq_true, decide_eq_false, wr_id, hst, Nat.reduceAdd, Nat.reduceSub, Nat.reduceMul, Nat.reduceBEq, Nat.reduceEqDiff, Nat.reduceLT, Nat.reduceLeDiff, Int.reduceToNat, Int.reduceLE, Int.reduceLT, Int.reduceAdd, Int.reduceSub, Int.reduceMul, Int.reduceEq, Int.reduceNeg, ↓reduceIte, reduceCtorEq]
    | false =>
    by_cases e2 : to = ⟨#[]⟩
    · rw [show inT fr to x = true by simp [inT, e1, e2, em], cond_true] at hst
      subst e2
      simp -dsimp (disch := first | omega | (simp only [hx, e1, List.length_cons, List.length_nil, List.length_map, List.length_append, List.length_take, List.length_drop, List.length_replicate, List.length_set, mkG_len] <;> omega) | fail) only [push_cast, if_pos, decide_eq_true, decide_eq_false, hx, e1, Nat.reduceAdd, Nat.reduceSub, Nat.reduceMul, Nat.reduceBEq, Nat.reduceEqDiff, Nat.reduceLT, Nat.reduceLeDiff, Int.reduceToNat, Int.reduceLE, Int.reduceLT, Int.reduceAdd, Int.reduceSub, Int.reduceMul, Int.reduceEq, Int.reduceNeg, ↓reduceIte, reduceCtorEq]
      refine ih (i + 1) _ (by omega) h ?_
      simp -dsimp (disch := first | omega | (simp only [wr_id, hst, List.map_append, List.length_append, List.length_cons, List.length_nil, List.length_map, List.length_append, List.length_take, List.length_drop, List.length_replicate, List.length_set, mkG_len] <;> omega) | fail) only [push_cast, if_pos, decide_eq_true, decide_eq_false, wr_id, hst, List.map_append, List.length_append, Nat.reduceAdd, Nat.reduceSub, Nat.reduceMul, Nat.reduceBEq, Nat.reduceEqDiff, Nat.reduceLT, Nat.reduceLeDiff, Int.reduceToNat, Int.reduceLE, Int.reduceLT, Int.reduceAdd, Int.reduceSub, Int.reduceMul, Int.reduceEq, Int.reduceNeg, ↓reduceIte, reduceCtorEq]
    · cases e3 : lts x to with
      | true =>
        rw [show inT fr to x = true by simp [inT, e1, e3], cond_true] at hst
        simp -dsimp (disch := first | omega | (simp only [hx, e1, e2, e3, List.length_cons, List.length_nil, List.length_map, List.length_append, List.length_take, List.length_drop, List.length_replicate, List.length_set, mkG_len] <;> omega) | fail) only [push_cast, if_pos, decide_eq_true, decide_eq_false, hx, e1, e2, e3, Nat.reduceAdd, Nat.reduceSub, Nat.reduceMul, Nat.reduceBEq, Nat.reduceEqDiff, Nat.reduceLT, Nat.reduceLeDiff, Int.reduceToNat, Int.reduceLE, Int.reduceLT, Int.reduceAdd, Int.reduceSub, Int.reduceMul, Int.reduceEq, Int.reduceNeg, ↓reduceIte, reduceCtorEq]
        refine ih (i + 1) _ (by omega) h ?_
        simp -dsimp (disch := first | omega | (simp only [wr_id, hst, List.map_append, List.length_append, List.length_cons, List.length_nil, List.length_map, List.length_append, List.length_take, List.length_drop, List.length_replicate, List.length_set, mkG_len] <;> omega) | fail) only [push_cast, if_pos, decide_eq_true, decide_eq_false, wr_id, hst, List.map_append, List.length_append, Nat.reduceAdd, Nat.reduceSub, Nat.reduceMul, Nat.reduceBEq, Nat.reduceEqDiff, Nat.reduceLT, Nat.reduceLeDiff, Int.reduceToNat, Int.reduceLE, Int.reduceLT, Int.reduceAdd, Int.reduceSub, Int.reduceMul, Int.reduceEq, Int.reduceNeg, ↓reduceIte, reduceCtorEq]
      | false =>
        rw [show inT fr to x = false by unfold inT; rw [e3]; simp [em, e2], cond_false, List.append_nil] at hst
        simp -dsimp (disch := first | omega | (simp only [hx, e1, e2, e3, List.length_cons, List.length_nil, List.length_map, List.length_append, List.length_take, List.length_drop, List.length_replicate, List.length_set, mkG_len] <;> omega) | fail) only [push_cast, if_pos, decide_eq_true, decide_eq_false, hx, e1, e2, e3, Nat.reduceAdd, Nat.reduceSub, Nat.reduceMul, Nat.reduceBEq, Nat.reduceEqDiff, Nat.reduceLT, Nat.reduceLeDiff, Int.reduceToNat, Int.reduceLE, Int.reduceLT, Int.reduceAdd, Int.reduceSub, Int.reduceMul, Int.reduceEq, Int.reduceNeg, ↓reduceIte, reduceCtorEq]
        refine ih (i + 1) _ (by omega) h ?_
        simp -dsimp (disch := first | omega | (simp only [wr_id, hst, List.length_cons, List.length_nil, List.length_map, List.length_append, List.length_take, List.length_drop, List.length_replicate, List.length_set, mkG_len] <;> omega) | fail) only [push_cast, if_pos, decide_eq_true, decide_eq_false, wr_id, hst, Nat.reduceAdd, Nat.reduceSub, Nat.reduceMul, Nat.reduceBEq, Nat.reduceEqDiff, Nat.reduceLT, Nat.reduceLeDiff, Int.reduceToNat, Int.reduceLE, Int.reduceLT, Int.reduceAdd, Int.reduceSub, Int.reduceMul, Int.reduceEq, Int.reduceNeg, ↓reduceIte, reduceCtorEq]
  · have ht : l.take i = l := List.take_of_length_le (by omega)
    simp -dsimp (disch := first | omega | (simp only [hM, ht, List.length_cons, List.length_nil, List.length_map, List.length_append, List.length_take, List.length_drop, List.length_replicate, List.length_set, mkG_len] <;> omega) | fail) only [push_cast, if_pos, decide_eq_true, decide_eq_false, hM, ht, Nat.reduceAdd, Nat.reduceSub, Nat.reduceMul, Nat.reduceBEq, Nat.reduceEqDiff, Nat.reduceLT, Nat.reduceLeDiff, Int.reduceToNat, Int.reduceLE, Int.reduceLT, Int.reduceAdd, Int.reduceSub, Int.reduceMul, Int.reduceEq, Int.reduceNeg, ↓reduceIte, reduceCtorEq]
def E73 : Env := { T := T0, kp := look [(0, [0, 1]), (1, [0, 1]), (2, [0, 1, 5]), (3, [0, 1, 5, 6]), (4, [0, 1, 5, 6]), (5, [0, 1, 5, 6]), (6, [0, 1, 5, 6]), (7, [5])] }
attribute [local push_cast] E73
theorem l6Minus (a b : List Str) (ha : a.length ≤ 2097152) (hb : b.length ≤ 2097152) : Does Try.prog 73 [.sl false 1 (a.map strR), .sl false 1 (b.map strR)] (.sl true 1 ((minusS a b).map strR), []) := by
  refine does_of (E := E73) (rs := [.tmp 4]) (lent := []) tOk rfl Try.func73 rfl (by decide) rfl rfl (Nat.le_of_ble_eq_true rfl) (Nat.le_of_ble_eq_true rfl) ?_
  obtain ⟨M, hM⟩ : ∃ M, M = minusS a b := ⟨_, rfl⟩
  rw [← hM]
  simp -dsimp (disch := first | omega | (simp only [List.length_cons, List.length_nil, List.length_map, List.length_append, List.length_take, List.length_drop, List.length_replicate, List.length_set, mkG_len] <;> omega) | fail) only [push_cast, if_pos, decide_eq_true, decide_eq_false, Nat.reduceAdd, Nat.reduceSub, Nat.reduceMul, Nat.reduceBEq, Nat.reduceEqDiff, Nat.reduceLT, Nat.reduceLeDiff, Int.reduceToNat, Int.reduceLE, Int.reduceLT, Int.reduceAdd, Int.reduceSub, Int.reduceMul, Int.reduceEq, Int.reduceNeg, ↓reduceIte, reduceCtorEq]
  refine loop_ind (α := Nat) (fun i => i ≤ a.length) (fun i => ⟨[(0, .sl false 1 (a.map strR)), (1, .sl false 1 (b.map strR)), (5, .ow 1 0 (minusS (a.take i) b).length), (6, .sc (.int .i64 i))], [(1, .ar 1 0 ((minusS (a.take i) b).map strR))], 2⟩) (fun i => a.length - i) 0 (Nat.zero_le _) ?_ ?_
  · simp -dsimp (disch := first | omega | (simp only [minusS, List.take_zero, List.filter_nil, List.length_cons, List.length_nil, List.length_map, List.length_append, List.length_take, List.length_drop, List.length_replicate, List.length_set, mkG_len] <;> omega) | fail) only [push_cast, if_pos, decide_eq_true, decide_eq_false, minusS, List.take_zero, List.filter_nil, Nat.reduceAdd, Nat.reduceSub, Nat.reduceMul, Nat.reduceBEq, Nat.reduceEqDiff, Nat.reduceLT, Nat.reduceLeDiff, Int.reduceToNat, Int.reduceLE, Int.reduceLT, Int.reduceAdd, Int.reduceSub, Int.reduceMul, Int.reduceEq, Int.reduceNeg, ↓reduceIte, reduceCtorEq]
  intro i hi ih
  by_cases h : i < a.length
  · obtain ⟨x, hx⟩ := ex_get h
    have hst : minusS (a.take (i + 1)) b = minusS (a.take i) b ++ (bif !inL b x then [x] else []) := filter_step hx
    have hlen : (minusS (a.take i) b).length ≤ (a.take i).length := List.length_filter_le ..
    rw [List.length_take] at hlen
    simp -dsimp (disch := first | omega | (simp only [hx, List.length_cons, List.length_nil, List.length_map, List.length_append, List.length_take, List.length_drop, List.length_replicate, List.length_set, mkG_len] <;> omega) | fail) only [push_cast, if_pos, decide_eq_true, decide_eq_false, hx, Nat.reduceAdd, Nat.reduceSub, Nat.reduceMul, Nat.reduceBEq, Nat.reduceEqDiff, Nat.reduceLT, Nat.reduceLeDiff, Int.reduceToNat, Int.reduceLE, Int.reduceLT, Int.reduceAdd, Int.reduceSub, Int.reduceMul, Int.reduceEq, Int.reduceNeg, ↓reduceIte, reduceCtorEq]
    refine callC (l2In b x hb) ?_
    cases e : inL b x with
    | true =>
      rw [e] at hst
      rw [show (bif !true then [x] else []) = ([] : List Str) from rfl, List.append_nil] at hst
      simp -dsimp (disch := first | omega | (simp only [List.length_cons, List.length_nil, List.length_map, List.length_append, List.length_take, List.length_drop, List.length_replicate, List.length_set, mkG_len] <;> omega) | fail) only [push_cast, if_pos, decide_eq_true, decide_eq_false, Nat.reduceAdd, Nat.reduceSub, Nat.reduceMul, Nat.reduceBEq, Nat.reduceEqDiff, Nat.reduceLT, Nat.reduceLeDiff, Int.reduceToNat, Int.reduceLE, Int.reduceLT, Int.reduceAdd, Int.reduceSub, Int.reduceMul, Int.reduceEq, Int.reduceNeg, ↓reduceIte, reduceCtorEq]
      refine ih (i + 1) _ (by omega) h ?_
      simp -dsimp (disch := first | omega | (simp only [wr_id, hst, List.length_cons, List.length_nil, List.length_map, List.length_append, List.length_take, List.length_drop, List.length_replicate, List.length_set, mkG_len] <;> omega) | fail) only [push_cast, if_pos, decide_eq_true, decide_eq_false, wr_id, hst, Nat.reduceAdd, Nat.reduceSub, Nat.reduceMul, Nat.reduceBEq, Nat.reduceEqDiff, Nat.reduceLT, Nat.reduceLeDiff, Int.reduceToNat, Int.reduceLE, Int.reduceLT, Int.reduceAdd, Int.reduceSub, Int.reduceMul, Int.reduceEq, Int.reduceNeg, ↓reduceIte, reduceCtorEq]
    | false =>
      rw [e] at hst
      simp -dsimp (disch := first | omega | (simp only [hx, List.length_cons, List.length_nil, List.length_map, List.length_append, List.length_take, List.length_drop, List.length_replicate, List.length_set, mkG_len] <;> omega) | fail) only [push_cast, if_pos, decide_eq_true, decide_eq_false, hx, Nat.reduceAdd, Nat.reduceSub, Nat.reduceMul, Nat.reduceBEq, Nat.reduceEqDiff, Nat.reduceLT, Nat.reduceLeDiff, Int.reduceToNat, Int.reduceLE, Int.reduceLT, Int.reduceAdd, Int.reduceSub, Int.reduceMul, Int.reduceEq, Int.reduceNeg, ↓reduceIte, reduceCtorEq]
      refine ih (i + 1) _ (by omega) h ?_
      simp -dsimp (disch := first | omega | (simp only [wr_id, hst, List.map_append, List.length_append, List.length_cons, List.length_nil, List.length_map, List.length_append, List.length_take, List.length_drop, List.length_replicate, List.length_set, mkG_len] <;> omega) | fail) only [push_cast, if_pos, decide_eq_true, decide_eq_false, wr_id, hst, List.map_append, List.length_append, Nat.reduceAdd, Nat.reduceSub, Nat.reduceMul, Nat.reduceBEq, Nat.reduceEqDiff, Nat.reduceLT, Nat.reduceLeDiff, Int.reduceToNat, Int.reduceLE, Int.reduceLT, Int.reduceAdd, Int.reduceSub, Int.reduceMul, Int.reduceEq, Int.reduceNeg, ↓reduceIte, reduceCtorEq]
  · have ht : a.take i = a := List.take_of_length_le (by omega)
    simp -dsimp (disch := first | omega | (simp only [hM, ht, List.length_cons, List.length_nil, List.length_map, List.length_append, List.length_take, List.length_drop, List.length_replicate, List.length_set, mkG_len] <;> omega) | fail) only [push_cast, if_pos, decide_eq_true, decide_eq_false, hM, ht, Nat.reduceAdd, Nat.reduceSub, Nat.reduceMul, Nat.reduceBEq, Nat.reduceEqDiff, Nat.reduceLT, Nat.reduceLeDiff, Int.reduceToNat, Int.reduceLE, Int.reduceLT, Int.reduceAdd, Int.reduceSub, Int.reduceMul, Int.reduceEq, Int.reduceNeg, ↓reduceIte, reduceCtorEq]
theorem bytesOf_row (l : List UInt8) : bytesOf (l.map byteRow) = some l := by
  induction l with
  | nil => rfl
  | cons x r ih =>
    rw [List.map_cons]
    unfold bytesOf
    rw [show byteOf (byteRow x) = some (UInt8.ofNat x.toNat) by simp [byteOf, byteRow]]
    simp only []
    rw [ih]
    simp
theorem flat_byte (l : List UInt8) : flatR (l.map byteRow) = true := by simp [flatR, byteRow, isSc]
def E117 : Env := { T := T0, kp := look [(0, [0, 1]), (1, [0, 1]), (2, [0, 1, 5]), (3, [0, 1, 5, 6]), (4, [0, 1, 5, 6]), (5, [0, 1, 5, 6]), (6, [1, 5])] }
attribute [local push_cast] E117
theorem l6Mix (l : List Str) (w : Int) (hl : l.length ≤ 2097152) (hj : (jb l).length ≤ 140737488355328) : Does Try.prog 117 [.sl false 1 (l.map strR), .sc (.int .i64 w)] (.sc (.string (mixS l w)), []) := by
  refine does_of (E := E117) (rs := [.tmp 4]) (lent := []) tOk rfl Try.func117 rfl (by decide) rfl rfl (Nat.le_of_ble_eq_true rfl) (Nat.le_of_ble_eq_true rfl) ?_
  simp -dsimp (disch := first | omega | (simp only [List.length_cons, List.length_nil, List.length_map, List.length_append, List.length_take, List.length_drop, List.length_replicate, List.length_set, mkG_len] <;> omega) | fail) only [push_cast, if_pos, decide_eq_true, decide_eq_false, Nat.reduceAdd, Nat.reduceSub, Nat.reduceMul, Nat.reduceBEq, Nat.reduceEqDiff, Nat.reduceLT, Nat.reduceLeDiff, Int.reduceToNat, Int.reduceLE, Int.reduceLT, Int.reduceAdd, Int.reduceSub, Int.reduceMul, Int.reduceEq, Int.reduceNeg, ↓reduceIte, reduceCtorEq]
  refine loop_ind (α := Nat) (fun i => i ≤ l.length) (fun i => ⟨[(0, .sl false 1 (l.map strR)), (1, .sc (.int .i64 w)), (5, .ow 1 0 (jb (l.take i)).length), (6, .sc (.int .i64 i))], [(1, .ar 1 0 ((jb (l.take i)).map byteRow))], 2⟩) (fun i => l.length - i) 0 (Nat.zero_le _) ?_ ?_
  · simp -dsimp (disch := first | omega | (simp only [jb, List.take_zero, List.length_cons, List.length_nil, List.length_map, List.length_append, List.length_take, List.length_drop, List.length_replicate, List.length_set, mkG_len] <;> omega) | fail) only [push_cast, if_pos, decide_eq_true, decide_eq_false, jb, List.take_zero, Nat.reduceAdd, Nat.reduceSub, Nat.reduceMul, Nat.reduceBEq, Nat.reduceEqDiff, Nat.reduceLT, Nat.reduceLeDiff, Int.reduceToNat, Int.reduceLE, Int.reduceLT, Int.reduceAdd, Int.reduceSub, Int.reduceMul, Int.reduceEq, Int.reduceNeg, ↓reduceIte, reduceCtorEq]
  intro i hi ih
  by_cases h : i < l.length
  · obtain ⟨x, hx⟩ := ex_get h
    have hst : jb (l.take (i + 1)) = jb (l.take i) ++ bt x := by rw [take_step hx, jb_app, jb_one]
    have hle := congrArg (fun l => (jb l).length) (List.take_append_drop (i + 1) l)
    simp only [jb_app, List.length_append, hst] at hle
    simp -dsimp (disch := first | omega | (simp only [hx, flat_byte, List.length_cons, List.length_nil, List.length_map, List.length_append, List.length_take, List.length_drop, List.length_replicate, List.length_set, mkG_len] <;> omega) | fail) only [push_cast, if_pos, decide_eq_true, decide_eq_false, hx, flat_byte, Nat.reduceAdd, Nat.reduceSub, Nat.reduceMul, Nat.reduceBEq, Nat.reduceEqDiff, Nat.reduceLT, Nat.reduceLeDiff, Int.reduceToNat, Int.reduceLE, Int.reduceLT, Int.reduceAdd, Int.reduceSub, Int.reduceMul, Int.reduceEq, Int.reduceNeg, ↓reduceIte, reduceCtorEq]
    refine ih (i + 1) _ (by omega) h ?_
    simp -dsimp (disch := first | omega | (simp only [wr_id, hst, List.map_append, List.length_append, List.length_cons, List.length_nil, List.length_map, List.length_append, List.length_take, List.length_drop, List.length_replicate, List.length_set, mkG_len] <;> omega) | fail) only [push_cast, if_pos, decide_eq_true, decide_eq_false, wr_id, hst, List.map_append, List.length_append, Nat.reduceAdd, Nat.reduceSub, Nat.reduceMul, Nat.reduceBEq, Nat.reduceEqDiff, Nat.reduceLT, Nat.reduceLeDiff, Int.reduceToNat, Int.reduceLE, Int.reduceLT, Int.reduceAdd, Int.reduceSub, Int.reduceMul, Int.reduceEq, Int.reduceNeg, ↓reduceIte, reduceCtorEq]
  · have ht : l.take i = l := List.take_of_length_le (by omega)
    simp -dsimp (disch := first | omega | (simp only [ht, bytesOf_row, List.length_cons, List.length_nil, List.length_map, List.length_append, List.length_take, List.length_drop, List.length_replicate, List.length_set, mkG_len] <;> omega) | fail) only [push_cast, if_pos, decide_eq_true, decide_eq_false, ht, bytesOf_row, Nat.reduceAdd, Nat.reduceSub, Nat.reduceMul, Nat.reduceBEq, Nat.reduceEqDiff, Nat.reduceLT, Nat.reduceLeDiff, Int.reduceToNat, Int.reduceLE, Int.reduceLT, Int.reduceAdd, Int.reduceSub, Int.reduceMul, Int.reduceEq, Int.reduceNeg, ↓reduceIte, reduceCtorEq]
    refine callC (specSum _ _ (by show (jb l).toArray.size < _; simp; omega)) ?_
    simp -dsimp (disch := first | omega | (simp only [mixS, List.length_cons, List.length_nil, List.length_map, List.length_append, List.length_take, List.length_drop, List.length_replicate, List.length_set, mkG_len] <;> omega) | fail) only [push_cast, if_pos, decide_eq_true, decide_eq_false, mixS, Nat.reduceAdd, Nat.reduceSub, Nat.reduceMul, Nat.reduceBEq, Nat.reduceEqDiff, Nat.reduceLT, Nat.reduceLeDiff, Int.reduceToNat, Int.reduceLE, Int.reduceLT, Int.reduceAdd, Int.reduceSub, Int.reduceMul, Int.reduceEq, Int.reduceNeg, ↓reduceIte, reduceCtorEq]
end Go.Proofs.Ytfanhfmfbfncfaa.Mx

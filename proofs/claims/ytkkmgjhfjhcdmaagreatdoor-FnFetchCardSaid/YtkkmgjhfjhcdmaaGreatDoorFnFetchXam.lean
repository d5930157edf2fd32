/- A machine over values for Go functions, proved sound, and functions run on it: texts F13, V9, VW, VY, VZ, F34, F41, F42, F43, F45. -/
import Derived.Test.YtkkmgjhfjhcdmaaGreatDoorFnFetchXai
import Derived.Test.YtkkmgjhfjhcdmaaGreatDoorFnFetchXaj
import Derived.Test.YtkkmgjhfjhcdmaaGreatDoorFnFetchXak
import Derived.Test.YtkkmgjhfjhcdmaaGreatDoorFnFetchXal
set_option linter.all false
namespace Go.Proofs.YtkkmgjhfjhcdmaaGreatDoor.Mx
open Go Go.RowKit Go.Proofs
theorem rF13_0 {p q : Prop} (k : q) (h : p = q := by conv => lhs; simp -dsimp (disch := first | omega | (simp only [zF, inB, LR] <;> omega) | fail) only [push_cast, zF, inB, simprocAttr, -Nat.reduceSubDiff]) : p := h.mpr k
def E63 : Env := { T := T0, kp := look [(0, [0]), (1, [0])] }
attribute [local push_cast] E63
theorem timeOk (n : Int) : Does Tryz.prog 63 [.sc (.int .i64 n)] (.sc (.bool (inB n 0 1000000)), []) := by
  refine does_of (E := E63) (rs := [.tmp 2]) (lent := []) tOk rfl Tryz.func63 rfl (by decide) rfl rfl (Nat.le_of_ble_eq_true rfl) (Nat.le_of_ble_eq_true rfl) ?_
  by_cases h : 0 ≤ n <;> by_cases h2 : n ≤ 1000000 <;> first | (exfalso; omega) | ((have zF := an h h2; (refine rF13_0 ?_) <;> first | exact nop | clear zF))
theorem lts_irrefl (a : Str) : lts a a = false := by
  rw [lts_def]
  exact decide_eq_false (List.lt_irrefl _)
theorem hasS_inL {w : Int} {l : List Str} (h : ascF w none l = true) (s : Str) : hasS l s = inL l s := by
  cases hi : inL l s with
  | true =>
    rw [inL_iff] at hi
    obtain ⟨j, hj⟩ := List.mem_iff_getElem?.1 hi
    have h1 : ¬ j < rk l s := fun hlt => by
      obtain ⟨y, hy, hy2⟩ := rk_all hlt
      rw [hj] at hy; cases hy
      rw [lts_irrefl] at hy2; cases hy2
    have h2 : ¬ rk l s < j := fun hlt => by
      obtain ⟨y, hy⟩ := ex_get (show rk l s < l.length by have := idx_lt hj; omega)
      have := asc_lt h hlt hy hj
      rw [rk_stop hy] at this; cases this
    have : rk l s = j := by omega
    unfold hasS
    rw [this, hj]; simp
  | false =>
    cases hh : hasS l s with
    | false => rfl
    | true =>
      unfold hasS at hh
      have := List.mem_of_getElem? (of_decide_eq_true hh)
      rw [← inL_iff, hi] at this; cases this
def E49 : Env := { T := T0, kp := look [(0, [0]), (1, [1]), (2, []), (3, [1]), (4, [1, 3]), (5, [1, 3]), (6, [1, 3]), (7, [1, 3, 4]), (8, []), (9, [1, 3, 4]), (10, []), (11, [1, 3, 4]), (12, [1, 3, 4, 5]), (13, [1, 3, 4, 5]), (14, [1, 3, 4, 5]), (15, []), (16, [])], dp := look2 [(14, [[], [0], [], [0, 1, 2], [0, 1, 2, 3], [0, 1, 2, 3, 4], [], [6], [6, 7], [0, 1, 2, 3, 4, 5, 6, 7, 8], [0, 1, 2, 3, 4, 5, 6, 7, 8, 9], [0, 1, 2, 3, 4, 5, 6, 7, 8, 9, 10], [0, 1, 2, 3, 4, 5, 6, 7, 8, 9, 10, 11], [0, 1, 2, 3, 4, 5, 6, 7, 8, 9, 10, 11, 12], [0, 1, 2, 3, 4, 5, 6, 7, 8, 9, 10, 11, 12, 13], [0, 1, 2, 3, 4, 5, 6, 7, 8, 9, 10, 11, 12, 13, 14], [0, 1, 2, 3, 4, 5, 6, 7, 8, 9, 10, 11, 12, 13], [0, 1, 2, 3, 4, 5, 6, 7, 8, 9, 10, 11, 12, 13, 16], [0, 1, 2, 3, 4, 5, 6, 7, 8, 9, 10, 11, 12, 13, 14, 15, 16, 17], [0, 1, 2, 3, 4, 5, 6, 7, 8, 9, 10, 11, 12, 13, 14, 15, 16, 17, 18], [0, 1, 2, 3, 4, 5, 6, 7, 8, 9, 10, 11, 12, 13], [0, 1, 2, 3, 4, 5, 6, 7, 8, 9, 10, 11, 12, 13, 20], [0, 1, 2, 3, 4, 5, 6, 7, 8, 9, 10, 11, 12, 13], [0, 1, 2, 3, 4, 5, 6, 7, 8, 9, 10, 11, 12, 13, 20, 21, 22], [0, 1, 2, 3, 4, 5, 6, 7, 8, 9, 10, 11, 12, 13, 20, 21, 22, 23], [0, 1, 2, 3, 4, 5, 6, 7, 8, 9, 10, 11, 12, 13, 14, 15, 16, 17, 18, 19, 20, 21, 22, 23, 24], [0, 1, 2, 3, 4, 5, 6, 7, 8, 9, 10, 11, 12, 13, 14, 15, 16, 17, 18, 19, 20, 21, 22, 23, 24, 25], [0, 1, 2, 3, 4, 5, 6, 7, 8, 9, 10, 11, 12, 13, 14, 15, 16, 17, 18, 19, 20, 21, 22, 23, 24, 25, 26]])] }
attribute [local push_cast] E49
set_option maxRecDepth 20000 in
set_option maxHeartbeats 4000000 in
theorem specValidFetch (f : Fetch) (hf : okFetch f) : Does Tryz.prog 49 [.ag (fetchC false f)] (.sc (.bool (validF f)), []) := by
  refine does_of (E := E49) (rs := [.tmp 2]) (lent := []) tOk rfl Tryz.func49 rfl (by decide) rfl rfl (Nat.le_of_ble_eq_true rfl) (Nat.le_of_ble_eq_true rfl) ?_
  have hl := hf.2.2.1
  have hp := hf.2.1.2.1
  obtain ⟨M, hM⟩ : ∃ M, M = validF f := ⟨_, rfl⟩
  rw [← hM]
  unfold validF at hM
  ((refine go0 ?_ <;> repeat (refine dr ?_; refine go0 ?_)) <;> try exact nop)
  refine callC (specValidStore f.st hf.2.1) ?_
  cases c1 : validSt f.st with
  | false =>
    rw [c1, Bool.false_and, Bool.false_and, Bool.false_and, Bool.false_and] at hM
    (have zF := hM; (refine go0 ?_ <;> repeat (refine dr ?_; refine go0 ?_)) <;> first | exact nop | clear zF)
  | true =>
  rw [c1, Bool.true_and] at hM
  ((refine go0 ?_ <;> repeat (refine dr ?_; refine go0 ?_)) <;> try exact nop)
  refine callC (l2In f.st.P f.nm hp) ?_
  cases c2 : inL f.st.P f.nm with
  | false =>
    rw [c2, Bool.false_and, Bool.false_and, Bool.false_and] at hM
    (have zF := hM; (refine go0 ?_ <;> repeat (refine dr ?_; refine go0 ?_)) <;> first | exact nop | clear zF)
  | true =>
  rw [c2, Bool.true_and] at hM
  ((refine go0 ?_ <;> repeat (refine dr ?_; refine go0 ?_)) <;> try exact nop)
  refine callC (l1In ..) ?_
  cases c3 : inB f.now 0 1000000 with
  | false =>
    rw [c3, Bool.false_and, Bool.false_and] at hM
    (have zF := hM; (refine go0 ?_ <;> repeat (refine dr ?_; refine go0 ?_)) <;> first | exact nop | clear zF)
  | true =>
  rw [c3, Bool.true_and] at hM
  ((refine go0 ?_ <;> repeat (refine dr ?_; refine go0 ?_)) <;> try exact nop)
  refine callC (l1In ..) ?_
  cases c4 : inB f.Q.length 1 5 with
  | false =>
    rw [c4, Bool.false_and] at hM
    (have zF := hM; (refine go0 ?_ <;> repeat (refine dr ?_; refine go0 ?_)) <;> first | exact nop | clear zF)
  | true =>
  rw [c4, Bool.true_and] at hM
  ((refine go0 ?_ <;> repeat (refine dr ?_; refine go0 ?_)) <;> try exact nop)
  refine loop_ind (α := Nat) (fun i => i ≤ f.Q.length ∧ M = (f.Q.drop i).all (peerB f.st.w f.now)) (fun i => ⟨[(1, .pt 1 0 0), (3, .sc (.int .i64 i))], [(1, .bx (fetchC false f))], 2⟩) (fun i => f.Q.length - i) 0 ⟨Nat.zero_le _, hM⟩ ?_ ?_
  · ((refine go0 ?_) <;> try exact nop)
  clear hM
  rintro i ⟨hi, hM⟩ ih
  by_cases h : i < f.Q.length
  rotate_left
  · rw [List.drop_eq_nil_of_le (by omega), List.all_nil] at hM
    (have zF := hM; (refine go0 ?_ <;> repeat (refine dr ?_; refine go0 ?_)) <;> first | exact nop | clear zF)
  obtain ⟨p, hx⟩ := ex_get h
  have hpN := (hf.2.2.2 p (List.mem_of_getElem? hx)).2.1
  rw [all_drop hx] at hM
  (have zF := hx; (refine go0 ?_) <;> first | exact nop | clear zF)
  refine callC (l1In ..) ?_
  cases d1 : inB p.lies 0 3 with
  | false =>
    rw [show peerB f.st.w f.now p = false by simp [peerB, d1], Bool.false_and] at hM
    (have zF := hM; (refine go0 ?_ <;> repeat (refine dr ?_; refine go0 ?_)) <;> first | exact nop | clear zF)
  | true =>
  ((refine go0 ?_) <;> try exact nop)
  refine callC (l1In ..) ?_
  cases d2 : inB p.wait 0 5 with
  | false =>
    rw [show peerB f.st.w f.now p = false by simp [peerB, d2], Bool.false_and] at hM
    (have zF := hM; (refine go0 ?_ <;> repeat (refine dr ?_; refine go0 ?_)) <;> first | exact nop | clear zF)
  | true =>
  ((refine go0 ?_) <;> try exact nop)
  refine callC (l1In ..) ?_
  cases d3 : inB p.last (-1) f.now with
  | false =>
    rw [show peerB f.st.w f.now p = false by simp [peerB, d3], Bool.false_and] at hM
    (have zF := hM; (refine go0 ?_ <;> repeat (refine dr ?_; refine go0 ?_)) <;> first | exact nop | clear zF)
  | true =>
  by_cases d4 : p.N.length ≤ 376
  rotate_left
  · rw [show peerB f.st.w f.now p = false by simp [peerB, d4], Bool.false_and] at hM
    (have zF := hM; (refine go0 ?_ <;> repeat (refine dr ?_; refine go0 ?_)) <;> first | exact nop | clear zF)
  have d2b : 0 ≤ p.wait ∧ p.wait ≤ 5 := by unfold inB at d2; exact of_decide_eq_true d2
  have hpb : askB f.st.w p.wait p.ask = true → peerB f.st.w f.now p = ascF f.st.w none p.N := fun h => by simp [peerB, d1, d2, d3, d4, h]
  have hpf : askB f.st.w p.wait p.ask = false → M = false := fun h => by rw [hM, show peerB f.st.w f.now p = false by simp [peerB, h], Bool.false_and]
  have hcase : ((0 < p.wait ∧ (p.ask.size : Int) = f.st.w) ∨ (p.wait = 0 ∧ p.ask = ⟨#[]⟩)) ∨ (0 < p.wait ∧ ¬ (p.ask.size : Int) = f.st.w) ∨ (p.wait = 0 ∧ ¬ p.ask = ⟨#[]⟩) := by
    by_cases hw : 0 < p.wait
    · by_cases h2 : (p.ask.size : Int) = f.st.w
      · exact .inl (.inl ⟨hw, h2⟩)
      · exact .inr (.inl ⟨hw, h2⟩)
    · by_cases h2 : p.ask = ⟨#[]⟩
      · exact .inl (.inr ⟨by omega, h2⟩)
      · exact .inr (.inr ⟨by omega, h2⟩)
  rcases hcase with hok | ⟨hw, h2⟩ | ⟨hw, h2⟩
  rotate_left
  · have := hpf (by unfold askB; rw [decide_eq_true hw, cond_true]; exact decide_eq_false h2)
    (have zF := an h2 this; (refine go0 ?_ <;> repeat (refine dr ?_; refine go0 ?_)) <;> first | exact nop | clear zF)
  · have := hpf (by unfold askB; rw [hw]; simp [em, h2])
    (have zF := an hw (an h2 this); (refine go0 ?_ <;> repeat (refine dr ?_; refine go0 ?_)) <;> first | exact nop | clear zF)
  have hpb := hpb (by unfold askB; rcases hok with ⟨hw, h2⟩ | ⟨hw, h2⟩; · rw [decide_eq_true hw, cond_true]; exact decide_eq_true h2
                      · rw [hw, h2]; rfl)
  rw [hpb] at hM
  obtain ⟨R, hR⟩ : ∃ R, R = (f.Q.drop (i + 1)).all (peerB f.st.w f.now) := ⟨_, rfl⟩
  rw [← hR] at hM
  have hok2 : (0 < p.wait ∧ decide ((p.ask.size : Int) = f.st.w) = true) ∨ (p.wait = 0 ∧ decide (p.ask = ⟨#[]⟩) = true) := by
    rcases hok with ⟨hw, h2⟩ | ⟨hw, h2⟩
    · exact .inl ⟨hw, decide_eq_true h2⟩
    · exact .inr ⟨hw, decide_eq_true h2⟩
  clear hok hpb hpf
  rcases hok2 with ⟨hw, h2⟩ | ⟨hw, h2⟩
  all_goals
    (have zF := h2; (refine go0 ?_ <;> repeat (refine dr ?_; refine go0 ?_)) <;> first | exact nop | clear zF)
    refine loop_ind (α := Nat) (fun k => k ≤ p.N.length ∧ M = (ascF f.st.w (bif k == 0 then none else p.N[k - 1]?) (p.N.drop k) && R)) (fun k => ⟨[(1, .pt 1 0 0), (3, .sc (.int .i64 i)), (4, .pt 2 0 0), (5, .sc (.int .i64 k))], [(1, .bx (fetchC false f)), (2, .bx (peerC false p))], 3⟩) (fun k => p.N.length - k) 0 ⟨Nat.zero_le _, hM⟩ ?_ ?_
    · ((refine go0 ?_) <;> try exact nop)
    clear hM
    rintro k ⟨hk, hy⟩ ihk
    by_cases hkl : k < p.N.length
    rotate_left
    · rw [List.drop_eq_nil_of_le (by omega), ascF, Bool.true_and, hR] at hy
      ((refine go0 ?_) <;> try exact nop)
      refine ih (i + 1) _ (by omega) ⟨h, hy⟩ ?_
      ((refine go1 ?_) <;> try exact nop)
    obtain ⟨s, hx⟩ := ex_get hkl
    rw [drop_step hx, ascF] at hy
    have hs : ∀ P, (bif k + 1 == 0 then none else p.N[k + 1 - 1]?) = P → P = some s := fun P e => by rw [← e, show (k + 1 == 0) = false by simp, cond_false, Nat.add_sub_cancel, hx]
    by_cases e1 : (s.size : Int) = f.st.w
    rotate_left
    · rw [show decide ((s.size : Int) = f.st.w) = false by simp [e1], Bool.false_and, Bool.false_and, Bool.false_and] at hy
      (have zF := an hx (an e1 hy); (refine go0 ?_ <;> repeat (refine dr ?_; refine go0 ?_)) <;> first | exact nop | clear zF)
    rw [show decide ((s.size : Int) = f.st.w) = true by simp [e1], Bool.true_and] at hy
    by_cases e2 : k = 0
    · subst e2
      rw [show aft (bif 0 == 0 then none else p.N[0 - 1]?) s = true from rfl, Bool.true_and] at hy
      (have zF := an hx e1; (refine go0 ?_ <;> repeat (refine dr ?_; refine go0 ?_)) <;> first | exact nop | clear zF)
      refine ihk 1 _ (by omega) ⟨hkl, by rw [hs _ rfl]; exact hy⟩ ?_
      ((refine go1 ?_) <;> try exact nop)
    · obtain ⟨q, hq⟩ := ex_get (show k - 1 < p.N.length by omega)
      rw [show (bif k == 0 then none else p.N[k - 1]?) = some q by rw [show (k == 0) = false by simp [e2]]; exact hq, show aft (some q) s = lts q s from rfl] at hy
      have e3 : ((k : Int) - 1).toNat = k - 1 := by omega
      cases e4 : lts q s with
      | false =>
        rw [e4, Bool.false_and, Bool.false_and] at hy
        (have zF := an hx (an hq (an e1 (an e3 (an e4 hy)))); (refine go1 ?_ <;> repeat (refine dr ?_; refine go1 ?_)) <;> first | exact nop | clear zF)
      | true =>
        rw [e4, Bool.true_and] at hy
        (have zF := an hx (an hq (an e1 (an e3 e4))); (refine go1 ?_ <;> repeat (refine dr ?_; refine go1 ?_)) <;> first | exact nop | clear zF)
        refine ihk (k + 1) _ (by omega) ⟨hkl, by rw [hs _ rfl]; exact hy⟩ ?_
        ((refine go1 ?_) <;> try exact nop)
end Go.Proofs.YtkkmgjhfjhcdmaaGreatDoor.Mx

namespace Go.Proofs.YtkkmgjhfjhcdmaaGreatDoor.Mx
open Go Go.RowKit
attribute [local instance 100000] instBEqOfDecidableEq
theorem str_ext {a b : Str} (h : a.data.toList = b.data.toList) : a = b := by
  obtain ⟨a⟩ := a; obtain ⟨b⟩ := b
  simp at h; simp [h]
theorem lts_tri {a b : Str} (h : lts a b = false) (hn : a ≠ b) : lts b a = true := by
  rw [lts_def] at *
  apply decide_eq_true
  have h := of_decide_eq_false h
  apply Classical.byContradiction
  intro h2
  exact hn (str_ext (List.le_antisymm (List.not_lt.1 h2) (List.not_lt.1 h)))
abbrev Up1 (l : List Str) : Prop := l.Pairwise fun a b => lts a b = true
theorem addS_cons (y : Str) (r : List Str) (s : Str) : addS (y :: r) s = if lts y s = true then y :: addS r s else if y = s then y :: r else s :: y :: r := by
  unfold addS hasS
  rw [rk]
  cases h : lts y s with
  | true =>
    simp only [cond_true, List.getElem?_cons_succ, List.take_succ_cons, List.drop_succ_cons, if_true]
    cases decide (r[rk r s]? = some s) <;> rfl
  | false =>
    by_cases h2 : y = s <;> simp [h2]
theorem addS_ins : ∀ {l : List Str} (s : Str), Up1 l → (addS l s).Perm (ins l s)
  | [], s, _ => by simp [addS, hasS, rk, ins]
  | y :: r, s, h => by
    rw [addS_cons]
    replace h := List.pairwise_cons.1 h
    have ih := addS_ins (l := r) s h.2
    split
    · rename_i h1
      have hn : ¬ s = y := fun e => by rw [e, lts_irrefl] at h1; cases h1
      have : ins (y :: r) s = y :: ins r s := by unfold ins; by_cases q : s ∈ r <;> simp [q, hn]
      rw [this]; exact ih.cons y
    · rename_i h1
      split
      · rename_i h2
        subst h2
        have : ins (y :: r) y = y :: r := by simp [ins]
        rw [this]
      · rename_i h2
        have hl := lts_tri (by simpa using h1) h2
        have hr : s ∉ r := fun q => by
          have := lts_trans hl (h.1 s q)
          rw [lts_irrefl] at this; cases this
        have : ins (y :: r) s = (y :: r) ++ [s] := by
          have h3 : ¬ s = y := fun e => h2 e.symm
          simp [ins, hr, h3]
        rw [this]
        exact (List.perm_append_singleton s (y :: r)).symm
theorem addS_up : ∀ {l : List Str} (s : Str), Up1 l → Up1 (addS l s)
  | [], s, _ => by simp [addS, hasS, rk]
  | y :: r, s, h => by
    rw [addS_cons]
    have h' := h
    replace h := List.pairwise_cons.1 h
    have ih := addS_up (l := r) s h.2
    split
    · rename_i h1
      refine List.pairwise_cons.2 ⟨fun x hx => ?_, ih⟩
      rcases ins_mem.1 ((addS_ins s h.2).mem_iff.1 hx) with q | q
      · exact h.1 x q
      · rw [q]; exact h1
    · rename_i h1
      split
      · exact h'
      · rename_i h2
        have hl := lts_tri (by simpa using h1) h2
        refine List.pairwise_cons.2 ⟨fun x hx => ?_, h'⟩
        rcases List.mem_cons.1 hx with q | q
        · rw [q]; exact hl
        · exact lts_trans hl (h.1 x q)
theorem ins_perm {l m : List Str} (h : l.Perm m) (s : Str) : (ins l s).Perm (ins m s) := by
  unfold ins
  by_cases hs : s ∈ l
  · rw [if_pos hs, if_pos (h.mem_iff.1 hs)]; exact h
  · rw [if_neg hs, if_neg fun q => hs (h.mem_iff.2 q)]; exact h.append_right _
theorem fold_ins : ∀ (L A I : List Str), Up1 A → A.Perm I → Up1 (L.foldl addS A) ∧ (L.foldl addS A).Perm (insL I L)
  | [], _, _, h, hp => ⟨h, hp⟩
  | s :: r, A, I, h, hp => fold_ins r (addS A s) (ins I s) (addS_up s h) ((addS_ins s h).trans (ins_perm hp s))
theorem srt_up {l : List Str} (h : Up1 l) : srt l = l := by
  unfold srt srtB
  rw [List.mergeSort_of_pairwise, List.map_map]
  · conv => rhs; rw [← List.map_id l]
    apply List.map_congr_left
    intro x _
    rfl
  · rw [List.pairwise_map]
    exact h.imp fun {a b} hab => by
      rw [lts_def] at hab
      exact decide_eq_true (List.le_of_lt (of_decide_eq_true hab))
theorem srt_ins (L : List Str) : srt (insL [] L) = L.foldl addS [] := by
  have := fold_ins L [] [] List.Pairwise.nil (List.Perm.refl _)
  rw [← srt_perm this.2, srt_up this.1]
end Go.Proofs.YtkkmgjhfjhcdmaaGreatDoor.Mx

namespace Go.Proofs.YtkkmgjhfjhcdmaaGreatDoor.Mx
open Go Go.RowKit
theorem list_false {s : Store} {n : Str} (h : (listF s n).2 = false) : (listF s n).1 = ⟨0, []⟩ := by
  unfold listF at h ⊢
  split
  · rfl
  · rename_i h1
    rw [if_neg h1] at h
    split
    · rename_i x hx
      rw [hx] at h
      exact read_fst h
    · rfl
noncomputable def nmsF (s : Store) (p : Str) : List Str := p :: (listF s p).1.S
noncomputable def nmsL (s : Store) : List Str := s.P.flatMap (nmsF s)
noncomputable def needF (s : Store) : List Str := if validSt s = false then [] else (nmsL s).foldl addS []
theorem nms_step {s : Store} {i : Nat} {p : Str} (h : s.P[i]? = some p) : (s.P.take (i + 1)).flatMap (nmsF s) = (s.P.take i).flatMap (nmsF s) ++ nmsF s p := by
  rw [take_step h, List.flatMap_append, List.flatMap_singleton]
theorem addS_len1 (l : List Str) (s : Str) : (addS l s).length ≤ l.length + 1 := by
  unfold addS; cases hasS l s <;> simp <;> omega
theorem foldS_len : ∀ (L A : List Str), (L.foldl addS A).length ≤ A.length + L.length
  | [], A => Nat.le_refl _
  | x :: r, A => by
    rw [List.foldl_cons]
    have := foldS_len r (addS A x)
    have := addS_len1 A x
    rw [List.length_cons]; omega
theorem nms_len (s : Store) : ∀ (P : List Str), (P.flatMap (nmsF s)).length ≤ 376 * P.length
  | [] => by simp
  | p :: r => by
    have h1 := nms_len s r
    have h2 := (list_ok (s := s) (n := p)).1
    have h3 : (nmsF s p).length = 1 + (listF s p).1.S.length := by unfold nmsF; rw [List.length_cons]; omega
    rw [List.flatMap_cons, List.length_append, List.length_cons, h3]
    omega
end Go.Proofs.YtkkmgjhfjhcdmaaGreatDoor.Mx

namespace Go.Proofs.YtkkmgjhfjhcdmaaGreatDoor.Mx
open Go Go.RowKit
def rmAt {α : Type} (l : List α) (i : Nat) : List α := l.take i ++ l.drop (i + 1)
def insAt {α : Type} (l : List α) (i : Nat) (x : α) : List α := l.take i ++ x :: l.drop i
theorem rmAt_len {α : Type} {l : List α} {i : Nat} (h : i < l.length) : (rmAt l i).length + 1 = l.length := by
  unfold rmAt; rw [List.length_append, List.length_take, List.length_drop]; omega
theorem insAt_len {α : Type} {l : List α} {i : Nat} {x : α} (h : i ≤ l.length) : (insAt l i x).length = l.length + 1 := by
  unfold insAt; rw [List.length_append, List.length_take, List.length_cons, List.length_drop]; omega
noncomputable def needL (s : Store) : List Str := (nmsL s).foldl addS []
def usedAt (I : List Item) (b : Int) : Int := match I[b.toNat]? with | some y => y.u | none => 0
def bestF (w : Int) (N : List Str) (I : List Item) : Nat → Int
  | 0 => -1
  | i + 1 => match I[i]? with
    | some x => if inL N (sumS x.t w) = false ∧ (bestF w N I i < 0 ∨ x.u < usedAt I (bestF w N I i)) then i else bestF w N I i
    | none => bestF w N I i
theorem best_rng (w : Int) (N : List Str) (I : List Item) : ∀ i : Nat, -1 ≤ bestF w N I i ∧ bestF w N I i < i ∧ bestF w N I i < I.length
  | 0 => by rw [bestF]; omega
  | i + 1 => by
    have := best_rng w N I i
    rw [bestF]
    split
    · rename_i x hx
      have := (List.getElem?_eq_some_iff.1 hx).1
      split <;> omega
    · omega
def evF (w r : Int) (N : List Str) (sz : Int) (I : List Item) : Option (List Item) :=
  if r < bytes I + sz ∨ 1000 ≤ I.length then
    if 0 ≤ bestF w N I I.length then evF w r N sz (rmAt I (bestF w N I I.length).toNat) else none
  else some I
  termination_by I.length
  decreasing_by
    have h1 := best_rng w N I I.length
    have h2 := rmAt_len (l := I) (i := (bestF w N I I.length).toNat) (by omega)
    omega
def sumsI (w : Int) (I : List Item) : List Str := I.map fun x => sumS x.t w
noncomputable def putF (s : Store) (t : Str) (now : Int) : Store × Int :=
  if (validSt s && inB t.size 1 7000 && inB now 0 1000000) = false then (emS, 1)
  else if 0 ≤ atI s.w (sumS t s.w) s.I then
    if textAt s (sumS t s.w) = t then ({ s with I := s.I.set (atI s.w (sumS t s.w) s.I).toNat ⟨t, now⟩ }, 0) else (emS, 2)
  else match evF s.w s.r (needL s) t.size s.I with
    | none => (emS, 3)
    | some J => ({ s with I := insAt J (rk (sumsI s.w J) (sumS t s.w)) ⟨t, now⟩ }, 0)
theorem bytes_rm {I : List Item} {i : Nat} {x : Item} (h : I[i]? = some x) : bytes (rmAt I i) + x.t.size = bytes I := by
  have h1 := bytes_app (I.take i) (I.drop i)
  rw [List.take_append_drop, drop_step h, bytes] at h1
  unfold rmAt
  rw [bytes_app]
  omega
theorem evF_sub {w r : Int} {N : List Str} {sz : Int} : ∀ {I J : List Item}, evF w r N sz I = some J → J.Sublist I := by
  intro I
  induction hn : I.length using Nat.strongRecOn generalizing I with
  | _ n ih =>
    intro J h
    rw [evF] at h
    split at h
    · split at h
      · have h1 := best_rng w N I I.length
        have h2 := rmAt_len (l := I) (i := (bestF w N I I.length).toNat) (by omega)
        have h3 := ih _ (by omega) rfl h
        refine h3.trans ?_
        unfold rmAt
        conv => rhs; rw [← List.take_append_drop (bestF w N I I.length).toNat I]
        exact (List.Sublist.refl _).append (List.drop_sublist_drop_left _ (Nat.le_succ _))
      · cases h
    · cases h; exact List.Sublist.refl _
theorem evF_fit {w r : Int} {N : List Str} {sz : Int} : ∀ {I J : List Item}, evF w r N sz I = some J → bytes J + sz ≤ r ∧ J.length < 1000 := by
  intro I
  induction hn : I.length using Nat.strongRecOn generalizing I with
  | _ n ih =>
    intro J h
    rw [evF] at h
    split at h
    · split at h
      · have h1 := best_rng w N I I.length
        have h2 := rmAt_len (l := I) (i := (bestF w N I I.length).toNat) (by omega)
        exact ih _ (by omega) rfl h
      · cases h
    · cases h; omega
theorem emS_ok : okStore emS := ⟨⟨Nat.zero_le _, fun a h => by cases h⟩, ⟨Nat.zero_le _, fun a h => by cases h⟩⟩
theorem put_ok {s : Store} {t : Str} {now : Int} (hs : okStore s) (ht : t.size ≤ 2097152) : okStore (putF s t now).1 := by
  unfold putF
  split
  · exact emS_ok
  · split
    · split
      · refine ⟨⟨by rw [List.length_set]; exact hs.1.1, fun a ha => ?_⟩, hs.2⟩
        rcases List.mem_or_eq_of_mem_set ha with h | h
        · exact hs.1.2 a h
        · subst h; exact ht
      · exact emS_ok
    · split
      · exact emS_ok
      · rename_i J hJ
        have h1 := evF_sub hJ
        have h2 := evF_fit hJ
        have h3 := rk_le (sumsI s.w J) (sumS t s.w)
        rw [show (sumsI s.w J).length = J.length by unfold sumsI; rw [List.length_map]] at h3
        refine ⟨⟨by show (insAt _ _ _).length ≤ _; rw [insAt_len h3]; omega, fun a ha => ?_⟩, hs.2⟩
        unfold insAt at ha
        simp only [List.mem_append, List.mem_cons] at ha
        rcases ha with h | h | h
        · exact hs.1.2 a (h1.mem (List.mem_of_mem_take h))
        · subst h; exact ht
        · exact hs.1.2 a (h1.mem (List.mem_of_mem_drop h))
end Go.Proofs.YtkkmgjhfjhcdmaaGreatDoor.Mx

namespace Go.Proofs.YtkkmgjhfjhcdmaaGreatDoor.Mx
open Go Go.RowKit
noncomputable def putsF (now : Int) : Store → List Str → Store × Int
  | s, [] => (s, 0)
  | s, t :: r => if (putF s t now).2 = 0 then putsF now (putF s t now).1 r else (emS, (putF s t now).2)
def partsL (t : Str) (w : Int) : List Str := formL (descL t w).1 w :: piecesL t
noncomputable def saveF (s : Store) (t : Str) (now : Int) : Store × Int :=
  if (validSt s && decide (t.size ≤ 3000) && inB now 0 1000000) = false then (emS, 1)
  else if (pinS s (nameS t s.w)).2 = 0 then putsF now (pinS s (nameS t s.w)).1 (partsL t s.w) else (emS, (pinS s (nameS t s.w)).2)
theorem sumS_le (t : Str) (w : Int) : (sumS t w).size ≤ 8 := by
  by_cases h : 1 ≤ w ∧ w ≤ 8
  · have := sumS_size (t := t) h.1 h.2; omega
  · unfold sumS; rw [if_neg h]; exact Nat.zero_le _
theorem nameS_le (t : Str) (w : Int) : (nameS t w).size ≤ 8 := by
  unfold nameS
  split
  · exact sumS_le _ _
  · exact Nat.zero_le _
theorem parts_sz {t x : Str} {w : Int} (h : x ∈ partsL t w) : x.size ≤ 7000 := by
  unfold partsL at h
  rcases List.mem_cons.1 h with rfl | h
  · exact formL_len
  · have := pieces_sz h; omega
theorem parts_len (t : Str) (w : Int) : (partsL t w).length ≤ 3002 := by
  have := pieces_len t
  unfold partsL
  rw [List.length_cons]; omega
theorem puts_ok {now : Int} : ∀ {L : List Str} {s : Store}, okStore s → (∀ x ∈ L, x.size ≤ 7000) → okStore (putsF now s L).1
  | [], _, hs, _ => hs
  | t :: r, s, hs, hL => by
    rw [putsF]
    split
    · exact puts_ok (put_ok hs (by have := hL t (by simp); omega)) (fun x hx => hL x (by simp [hx]))
    · exact emS_ok
theorem save_ok {s : Store} {t : Str} {now : Int} (hs : okStore s) : okStore (saveF s t now).1 := by
  unfold saveF
  split
  · exact emS_ok
  · split
    · exact puts_ok (pinS_ok hs (by have := nameS_le t s.w; show _ ≤ _; omega)) (fun x hx => parts_sz hx)
    · exact emS_ok
end Go.Proofs.YtkkmgjhfjhcdmaaGreatDoor.Mx

namespace Go.Proofs.YtkkmgjhfjhcdmaaGreatDoor.Mx
open Go Go.RowKit Go.Proofs
theorem rF34_0 {p q : Prop} (k : q) (h : p = q := by conv => lhs; simp -dsimp (disch := first | omega | (simp only [zF, wr_id, wr_u8, LR] <;> omega) | fail) only [push_cast, zF, wr_id, wr_u8, simprocAttr, -Nat.reduceSubDiff]) : p := h.mpr k
theorem rF34_1 {p q : Prop} (k : q) (h : p = q := by conv => lhs; simp -dsimp (disch := first | omega | (simp only [zF, wr_id, List.map_append, List.length_append, List.length_cons, List.length_nil, LR] <;> omega) | fail) only [push_cast, zF, wr_id, List.map_append, List.length_append, List.length_cons, List.length_nil, simprocAttr, -Nat.reduceSubDiff]) : p := h.mpr k
theorem byteRow_of {v : Int} (h0 : 0 ≤ v) (h1 : v ≤ 255) : ([.sc (.int .u8 v)] : Row) = byteRow (UInt8.ofNat v.toNat) := by
  unfold byteRow
  rw [UInt8.toNat_ofNat']
  rw [Nat.mod_eq_of_lt (by omega), show ((v.toNat : Nat) : Int) = v by omega]
def E142 : Env := { T := T0, kp := look [(0, [0, 1]), (1, [0, 1]), (2, [0, 1, 5]), (3, [0, 1, 5, 6]), (4, [0, 1, 5, 6, 7]), (5, [0, 1, 5, 6, 7]), (6, [0, 1, 5, 6, 7]), (7, [0, 1, 5, 6, 7]), (8, [0, 1, 5, 7]), (9, [0, 5, 6])] }
attribute [local push_cast] E142
set_option maxHeartbeats 1000000 in
theorem l3Cut (t : Str) (ht : t.size ≤ 100000000) : Does Tryz.prog 142 [.sc (.string t), .sc (.int .u8 10)] (.sl true 1 (((cutL 10 (bt t)).map stB).map strR), []) := by
  refine does_of (E := E142) (rs := [.tmp 4]) (lent := []) tOk rfl Tryz.func142 rfl (by decide) rfl rfl (Nat.le_of_ble_eq_true rfl) (Nat.le_of_ble_eq_true rfl) ?_
  obtain ⟨M, hM⟩ : ∃ M, M = (cutL 10 (bt t)).map stB := ⟨_, rfl⟩
  rw [← hM]
  unfold cutL at hM
  ((refine go0 ?_ <;> repeat (refine dr ?_; refine go0 ?_)) <;> try exact nop)
  refine loop_ind (α := Nat × Nat × List Str) (fun q => q.1 ≤ t.size ∧ q.2.1 ≤ q.1 ∧ q.2.2.length ≤ q.1 ∧ q.2.2 ++ (cutF 10 [] (curB t q.2.1 q.1) ((bt t).drop q.1)).map stB = M)
    (fun q => ⟨[(0, .sc (.string t)), (1, .sc (.int .u8 10)), (5, .ow 1 0 q.2.2.length), (6, .sc (.int .i64 q.2.1)), (7, .sc (.int .i64 q.1))], [(1, .ar 1 0 (q.2.2.map strR))], 2⟩) (fun q => t.size - q.1) (0, 0, []) ⟨Nat.zero_le _, Nat.le_refl _, Nat.le_refl _, by rw [cur_nil]; simp [hM]⟩ ?_ ?_
  · ((refine go0 ?_) <;> try exact nop)
  rintro ⟨i, a, acc⟩ ⟨hi, ha, hac, hy⟩ ih
  replace hi : i ≤ t.size := hi
  replace ha : a ≤ i := ha
  replace hac : acc.length ≤ i := hac
  replace hy : acc ++ (cutF 10 [] (curB t a i) ((bt t).drop i)).map stB = M := hy
  by_cases h : i < t.size
  · obtain ⟨x, hx⟩ := ex_get (by rw [bt_len]; exact h : i < (bt t).length)
    rw [drop_step hx, cutF] at hy
    have e1 : a + ((i : Int) - (a : Int)).toNat = i := by omega
    have e2 : ((i : Int) - (a : Int)).toNat = i - a := by omega
    have e3 : a + (i - a) = i := by omega
    by_cases e : x = 10
    · rw [if_pos e, cutF_acc] at hy
      subst e
      have hx10 : ((10 : UInt8).toNat : Int) = 10 := rfl
      (have zF := an hx (an hx10 (an e1 (an e2 e3))); (refine go0 ?_ <;> repeat (refine dr ?_; refine go0 ?_)) <;> first | exact nop | clear zF)
      refine ih (i + 1, i + 1, acc ++ [t.extract a i]) _ (by show t.size - (i + 1) < t.size - i; omega) ⟨h, Nat.le_refl _, by simp only [List.length_append, List.length_cons, List.length_nil]; omega, by rw [cur_nil, ← hy, ext_cur]; simp⟩ ?_
      ((refine rF34_1 ?_) <;> try exact nop)
    · have hxn : ¬ (x.toNat : Int) = 10 := fun q => e (UInt8.toNat_inj.1 (by show x.toNat = 10; omega))
      rw [if_neg e, ← cur_step hx ha] at hy
      (have zF := an hx hxn; (refine go0 ?_ <;> repeat (refine dr ?_; refine go0 ?_)) <;> first | exact nop | clear zF)
      refine ih (i + 1, a, acc) _ (by show t.size - (i + 1) < t.size - i; omega) ⟨h, by show a ≤ i + 1; omega, by show acc.length ≤ i + 1; omega, hy⟩ ?_
      ((refine go1 ?_) <;> try exact nop)
  · have hi : i = t.size := by omega
    have hd : (bt t).drop i = [] := List.drop_eq_nil_of_le (by rw [bt_len]; omega)
    rw [hd, cutF] at hy
    have e1 : a + ((t.size : Int) - (a : Int)).toNat = t.size := by omega
    have e2 : ((t.size : Int) - (a : Int)).toNat = t.size - a := by omega
    have e3 : a + (t.size - a) = t.size := by omega
    have hy : acc.map strR ++ [[.sc (.string (t.extract a t.size))]] = M.map strR := by rw [← hy, ext_cur, ← hi]; simp [strR]
    (have zF := an hi (an e1 (an e2 e3)); (refine go0 ?_ <;> repeat (refine dr ?_; refine go0 ?_)) <;> first | exact nop | clear zF)
    rw [hy]
def E175 : Env := { T := T0, kp := look [(0, [0]), (1, [0]), (2, [0]), (3, [0])] }
attribute [local push_cast] E175
theorem l3Digit (b : UInt8) : Does Tryz.prog 175 [.sc (.int .u8 b.toNat)] (.sc (.int .i64 (digI b)), []) := by
  refine does_of (E := E175) (rs := [.tmp 2]) (lent := []) tOk rfl Tryz.func175 rfl (by decide) rfl rfl (Nat.le_of_ble_eq_true rfl) (Nat.le_of_ble_eq_true rfl) ?_
  obtain ⟨M, hM⟩ : ∃ M, M = digI b := ⟨_, rfl⟩
  rw [← hM]
  unfold digI at hM
  have hb := b.toNat_lt
  by_cases h1 : 48 ≤ b.toNat
  rotate_left
  · rw [if_neg (by omega)] at hM
    (have zF := h1; (refine rF34_0 ?_ <;> repeat (refine dr ?_; refine rF34_0 ?_)) <;> first | exact nop | clear zF)
    rw [hM]
  by_cases h2 : b.toNat ≤ 57
  rotate_left
  · rw [if_neg (by omega)] at hM
    (have zF := an h1 h2; (refine rF34_0 ?_ <;> repeat (refine dr ?_; refine rF34_0 ?_)) <;> first | exact nop | clear zF)
    rw [hM]
  rw [if_pos ⟨h1, h2⟩] at hM
  have e : wr .u8 ((b.toNat : Int) - 48) = (b.toNat : Int) - 48 := by rw [wr_u8]; omega
  (have zF := an h1 (an h2 e); (refine go1 ?_ <;> repeat (refine dr ?_; refine go1 ?_)) <;> first | exact nop | clear zF)
  rw [hM]
def E143 : Env := { T := T0, kp := look [(0, [0]), (1, [0]), (2, [0, 3]), (3, []), (4, [0, 3]), (5, [0, 3, 4]), (6, [0, 3, 4]), (7, [0, 3, 4]), (8, []), (9, [0, 3, 4]), (10, [0, 3]), (11, []), (12, [3])] }
attribute [local push_cast] E143
set_option maxHeartbeats 1000000 in
theorem l3Number (t : Str) (ht : t.size ≤ 100000000) : Does Tryz.prog 143 [.sc (.string t)] (.sc (.int .i64 (numB (bt t))), []) := by
  refine does_of (E := E143) (rs := [.tmp 2]) (lent := []) tOk rfl Tryz.func143 rfl (by decide) rfl rfl (Nat.le_of_ble_eq_true rfl) (Nat.le_of_ble_eq_true rfl) ?_
  obtain ⟨M, hM⟩ : ∃ M, M = numB (bt t) := ⟨_, rfl⟩
  rw [← hM]
  unfold numB at hM
  rw [bt_len] at hM
  by_cases h1 : t.size < 1
  · rw [if_pos (.inl h1)] at hM
    (have zF := h1; (refine go0 ?_ <;> repeat (refine dr ?_; refine go0 ?_)) <;> first | exact nop | clear zF)
    rw [hM]
  by_cases h2 : 4 < t.size
  · rw [if_pos (.inr h2)] at hM
    (have zF := an h1 h2; (refine go0 ?_ <;> repeat (refine dr ?_; refine go0 ?_)) <;> first | exact nop | clear zF)
    rw [hM]
  rw [if_neg (by omega)] at hM
  (have zF := an h1 h2; (refine go0 ?_ <;> repeat (refine dr ?_; refine go0 ?_)) <;> first | exact nop | clear zF)
  refine loop_ind (α := Nat × Nat) (fun q => q.1 ≤ t.size ∧ q.2 + 1 ≤ 10 ^ q.1 ∧ Lib.decFrom q.2 ((bt t).drop q.1) = Lib.decFrom 0 (bt t))
    (fun q => ⟨[(0, .sc (.string t)), (3, .sc (.int .i64 q.2)), (4, .sc (.int .i64 q.1))], [], 1⟩) (fun q => t.size - q.1) (0, 0) ⟨Nat.zero_le _, by simp, rfl⟩ ?_ ?_
  · ((refine go0 ?_) <;> try exact nop)
  rintro ⟨i, n⟩ ⟨hi, hn, hy⟩ ih
  replace hi : i ≤ t.size := hi
  replace hn : n + 1 ≤ 10 ^ i := hn
  replace hy : Lib.decFrom n ((bt t).drop i) = Lib.decFrom 0 (bt t) := hy
  have hn4 : n ≤ 10000 := by
    have : 10 ^ i ≤ 10 ^ 4 := Nat.pow_le_pow_right (by omega) (by omega)
    omega
  by_cases h : i < t.size
  · obtain ⟨x, hx⟩ := ex_get (by rw [bt_len]; exact h : i < (bt t).length)
    have hb := x.toNat_lt
    rw [drop_step hx, Lib.decFrom, Lib.digitVal] at hy
    have bad : ¬ (48 ≤ x.toNat ∧ x.toNat ≤ 57) → M = -1 := fun hc => by
      rw [if_neg hc] at hy
      rw [hM, ← hy]
    by_cases a1 : 48 ≤ x.toNat
    rotate_left
    · have hM := bad (by omega)
      (have zF := an hx (an a1 hM); (refine go0 ?_ <;> repeat (refine dr ?_; refine go0 ?_)) <;> first | exact nop | clear zF)
    by_cases a2 : x.toNat ≤ 57
    rotate_left
    · have hM := bad (by omega)
      (have zF := an hx (an a1 (an a2 hM)); (refine go0 ?_ <;> repeat (refine dr ?_; refine go0 ?_)) <;> first | exact nop | clear zF)
    rw [if_pos ⟨a1, a2⟩] at hy
    simp only at hy
    have e : wr .u8 ((x.toNat : Int) - 48) = (x.toNat : Int) - 48 := by rw [wr_u8]; omega
    have e2 : ((x.toNat : Int) - 48) = ((x.toNat - 48 : Nat) : Int) := by omega
    obtain ⟨d, hd⟩ : ∃ d, d = x.toNat - 48 := ⟨_, rfl⟩
    rw [← hd] at e2 hy
    have hd9 : d ≤ 9 := by omega
    rw [e2] at e
    clear hd
    (have zF := an hx (an a1 (an a2 e2)); (refine go1 ?_ <;> repeat (refine dr ?_; refine go1 ?_)) <;> first | exact nop | clear zF)
    refine ih (i + 1, n * 10 + d) _ (by show t.size - (i + 1) < t.size - i; omega) ⟨h, by show n * 10 + d + 1 ≤ 10 ^ (i + 1); rw [Nat.pow_succ]; omega, hy⟩ ?_
    (have zF := an e e2; (refine go1 ?_) <;> first | exact nop | clear zF)
  · have hi : i = t.size := by omega
    have hd : (bt t).drop i = [] := List.drop_eq_nil_of_le (by rw [bt_len]; omega)
    rw [hd, Lib.decFrom] at hy
    rw [← hy] at hM
    simp only at hM
    (have zF := h; (refine go0 ?_ <;> repeat (refine dr ?_; refine go0 ?_)) <;> first | exact nop | clear zF)
    refine callC (l3Dec n (by omega)) ?_
    by_cases e : Lib.decDigits n = bt t
    · rw [if_pos e] at hM
      have e2 : stB (Lib.decDigits n) = t := by rw [e, stB_bt]
      (have zF := e2; (refine go0 ?_ <;> repeat (refine dr ?_; refine go0 ?_)) <;> first | exact nop | clear zF)
      rw [hM]
    · rw [if_neg e] at hM
      have e2 : ¬ stB (Lib.decDigits n) = t := fun q => e (by rw [← q, bt_stB])
      (have zF := e2; (refine go0 ?_ <;> repeat (refine dr ?_; refine go0 ?_)) <;> first | exact nop | clear zF)
      rw [hM]
end Go.Proofs.YtkkmgjhfjhcdmaaGreatDoor.Mx

namespace Go.Proofs.YtkkmgjhfjhcdmaaGreatDoor.Mx
open Go Go.RowKit Go.Proofs
theorem rF41_0 {p q : Prop} (k : q) (h : p = q := by conv => lhs; simp -dsimp (disch := first | omega | (simp only [zF, wr_id, List.map_append, List.length_append, List.length_cons, List.length_nil, List.map_cons, List.map_nil, LR] <;> omega) | fail) only [push_cast, zF, wr_id, List.map_append, List.length_append, List.length_cons, List.length_nil, List.map_cons, List.map_nil, simprocAttr, -Nat.reduceSubDiff]) : p := h.mpr k
theorem rF41_1 {p q : Prop} (k : q) (h : p = q := by conv => lhs; simp -dsimp (disch := first | omega | (simp only [zF, List.take_zero, List.map_nil, LR] <;> omega) | fail) only [push_cast, zF, List.take_zero, List.map_nil, simprocAttr, -Nat.reduceSubDiff]) : p := h.mpr k
theorem digI_r (b : UInt8) : -87 ≤ digI b ∧ digI b ≤ 255 := by
  unfold digI
  have := b.toNat_lt
  split <;> omega
def E144 : Env := { T := T0, kp := look [(0, [0]), (1, [0]), (2, [0, 3]), (3, [0, 3, 4]), (4, [0, 3, 4]), (5, [0, 3, 4]), (6, [3])], dp := look2 [(5, [[], [], [], [1, 2], [1, 2, 3], [1, 2, 3, 4], [], [], [7], [6, 7, 8], [1, 2, 3, 4, 6, 7, 8, 9], [1, 2, 3, 4, 5, 6, 7, 8, 9, 10], [1, 2, 3, 4, 5, 6, 7, 8, 9, 10, 11], [1, 2, 3, 4, 5, 6, 7, 8, 9, 10, 11, 12], [0, 1, 2, 3, 4, 5, 6, 7, 8, 9, 10, 11, 12, 13], [0, 1, 2, 3, 4, 5, 6, 7, 8, 9, 10, 11, 12, 13, 14]])] }
attribute [local push_cast] E144
set_option maxRecDepth 20000 in
set_option maxHeartbeats 1000000 in
theorem l3Bytes (t : Str) (ht : t.size ≤ 100000000) : Does Tryz.prog 144 [.sc (.string t)] (.sc (.string (stB (unhex (bt t)))), []) := by
  refine does_of (E := E144) (rs := [.tmp 2]) (lent := []) tOk rfl Tryz.func144 rfl (by decide) rfl rfl (Nat.le_of_ble_eq_true rfl) (Nat.le_of_ble_eq_true rfl) ?_
  obtain ⟨M, hM⟩ : ∃ M, M = unhex (bt t) := ⟨_, rfl⟩
  rw [← hM]
  ((refine go0 ?_ <;> repeat (refine dr ?_; refine go0 ?_)) <;> try exact nop)
  refine loop_ind (α := Nat × List UInt8) (fun q => q.1 ≤ t.size ∧ q.2.length ≤ q.1 ∧ q.2 ++ unhex ((bt t).drop q.1) = M)
    (fun q => ⟨[(0, .sc (.string t)), (3, .ow 1 0 q.2.length), (4, .sc (.int .i64 q.1))], [(1, .ar 1 0 (q.2.map byteRow))], 2⟩) (fun q => t.size - q.1) (0, []) ⟨Nat.zero_le _, Nat.le_refl _, by simp [hM]⟩ ?_ ?_
  · ((refine go0 ?_) <;> try exact nop)
  rintro ⟨i, B⟩ ⟨hi, hB, hy⟩ ih
  replace hi : i ≤ t.size := hi
  replace hB : B.length ≤ i := hB
  replace hy : B ++ unhex ((bt t).drop i) = M := hy
  by_cases h : i + 1 < t.size
  · obtain ⟨x, hx⟩ := ex_get (by rw [bt_len]; omega : i < (bt t).length)
    obtain ⟨y, hz⟩ := ex_get (by rw [bt_len]; exact h : i + 1 < (bt t).length)
    rw [drop_step hx, drop_step hz, unhex] at hy
    have rx := digI_r x
    have ry := digI_r y
    have e1 : ((i : Int) + 1).toNat = i + 1 := by omega
    have e4 := byteRow_of (v := (16 * digI x + digI y) % 256) (by omega) (by omega)
    have e6 : (i : Int) + 1 + 1 = i + 2 := by omega
    have e5 : wr .u8 (16 * digI x + digI y) = (16 * digI x + digI y) % 256 := wr_u8 _
    (have zF := an h (an hx (an hz e1)); (refine go1 ?_ <;> repeat (refine dr ?_; refine go1 ?_)) <;> first | exact nop | clear zF)
    refine callC (l3Digit x) ?_
    (have zF := an h (an hx (an hz e1)); (refine go1 ?_ <;> repeat (refine dr ?_; refine go1 ?_)) <;> first | exact nop | clear zF)
    refine callC (l3Digit y) ?_
    (have zF := an h (an hx (an hz (an e1 e5))); (refine go1 ?_ <;> repeat (refine dr ?_; refine go1 ?_)) <;> first | exact nop | clear zF)
    refine ih (i + 2, B ++ [UInt8.ofNat ((16 * digI x + digI y) % 256).toNat]) _ (by show t.size - (i + 2) < t.size - i; omega) ⟨by show i + 2 ≤ t.size; omega, by simp only [List.length_append, List.length_cons, List.length_nil]; omega, by rw [← hy]; simp⟩ ?_
    (have zF := an ((e4).symm) e6; (refine rF41_0 ?_) <;> first | exact nop | clear zF)
  · have hd : unhex ((bt t).drop i) = [] := by
      have hl : ((bt t).drop i).length ≤ 1 := by rw [List.length_drop, bt_len]; omega
      match (bt t).drop i, hl with
      | [], _ => rfl
      | [_], _ => rfl
      | _ :: _ :: _, hl => simp at hl
    rw [hd, List.append_nil] at hy
    subst hy
    (have zF := h; (refine go1 ?_ <;> repeat (refine dr ?_; refine go1 ?_)) <;> first | exact nop | clear zF)
    rfl
theorem cut_head {c : UInt8} : ∀ (r cur : List UInt8), ∃ q L, cutF c [] cur r = (cur ++ q) :: L
  | [], cur => ⟨[], [], by simp [cutF]⟩
  | x :: r, cur => by
    rw [cutF]
    split
    · exact ⟨[], cutF c [] [] r, by rw [cutF_acc]; simp⟩
    · obtain ⟨q, L, h⟩ := cut_head r (cur ++ [x])
      exact ⟨x :: q, L, by rw [h]; simp⟩
theorem cut_size {s : List UInt8} (h : s.take 5 = sizB) : ∃ q L, cutL 10 s = (sizB ++ q) :: L := by
  have e : s = sizB ++ s.drop 5 := by rw [← h, List.take_append_drop]
  unfold cutL
  rw [e, cutF_skip (by decide), List.nil_append]
  exact cut_head _ _
theorem sizS_iff {t : Str} (h : 6 ≤ t.size) : t.extract 0 5 = ⟨#[115, 105, 122, 101, 32]⟩ ↔ (bt t).take 5 = sizB := by
  rw [ext_cur, show curB t 0 5 = (bt t).take 5 by unfold curB; rw [List.drop_zero]]
  have e : (⟨#[115, 105, 122, 101, 32]⟩ : ByteArray) = stB sizB := rfl
  rw [e]
  exact ⟨fun q => by have := congrArg bt q; rwa [bt_stB, bt_stB] at this, fun q => by rw [q]⟩
def E102 : Env := { T := T0, kp := look [(0, [0, 1]), (1, [0, 1, 4]), (2, [4]), (3, [0, 1, 4]), (4, [0, 1, 4, 6]), (5, [0, 1, 4, 6, 7]), (6, [0, 1, 4, 6, 7, 8]), (7, [0, 1, 4, 6, 7, 8]), (8, [0, 1, 4, 6, 7, 8]), (9, [0, 1, 4, 7]), (10, [4]), (11, [4, 7])], dp := look2 [(8, [[], [0], [], [], [2, 3], [2, 3, 4], [2, 3, 4, 5], [2, 3, 4, 5, 6], [0, 1, 2, 3, 4, 5, 6, 7], [0, 1, 2, 3, 4, 5, 6, 7, 8], [0, 1, 2, 3, 4, 5, 6, 7, 8, 9]])] }
attribute [local push_cast] E102
set_option maxRecDepth 20000 in
set_option maxHeartbeats 1000000 in
theorem specReadList (t : Str) (w : Int) (ht : t.size ≤ 100000000) : Does Tryz.prog 102 [.sc (.string t), .sc (.int .i64 w)] (.tu [.ag (lstC true (readL t w).1), .sc (.bool (readL t w).2)], []) := by
  refine does_of (E := E102) (rs := [.cell 4 96, .tmp 5]) (lent := []) tOk rfl Tryz.func102 rfl (by decide) rfl rfl (Nat.le_of_ble_eq_true rfl) (Nat.le_of_ble_eq_true rfl) ?_
  obtain ⟨M, hM⟩ : ∃ M, M = readL t w := ⟨_, rfl⟩
  rw [← hM]
  by_cases h1 : t.size < 6
  · rw [read_out (.inl h1)] at hM
    subst hM
    (have zF := h1; (refine go0 ?_ <;> repeat (refine dr ?_; refine go0 ?_)) <;> first | exact nop | clear zF)
  by_cases h2 : 7000 < t.size
  · rw [read_out (.inr (.inl h2))] at hM
    subst hM
    (have zF := an h1 h2; (refine go0 ?_ <;> repeat (refine dr ?_; refine go0 ?_)) <;> first | exact nop | clear zF)
  have hsz := sizS_iff (t := t) (by omega)
  by_cases h3 : t.extract 0 5 = ⟨#[115, 105, 122, 101, 32]⟩
  rotate_left
  · rw [read_out (.inr (.inr fun q => h3 (hsz.2 q)))] at hM
    subst hM
    (have zF := an h1 (an h2 h3); (refine go0 ?_ <;> repeat (refine dr ?_; refine go0 ?_)) <;> first | exact nop | clear zF)
  obtain ⟨q, L, hc⟩ := cut_size (hsz.1 h3)
  rw [read_spec (by omega)] at hM
  obtain ⟨P, hP⟩ : ∃ P, P = parseL t := ⟨_, rfl⟩
  rw [← hP] at hM
  unfold parseL at hP
  have hLn := cutF_len 10 (bt t) [] []
  have hLs := cutF_sz 10 (bt t) [] [] t.size (by simp) (by rw [bt_len]; simp)
  rw [show cutF 10 [] [] (bt t) = cutL 10 (bt t) from rfl, hc] at hLn hLs
  rw [bt_len, List.length_cons, List.length_nil] at hLn
  rw [hc] at hP
  have hP : P = ⟨numB q, (L.take (L.length - 1)).map fun x => stB (unhex x)⟩ := by
    rw [hP]
    have e1 : ((((sizB ++ q) :: L).getD 0 []).drop 5) = q := List.drop_left' rfl
    rw [e1]
    simp
  have hq0 := hLs _ (List.mem_cons_self ..)
  have hq5 : (sizB ++ q).length = 5 + q.length := by rw [List.length_append]; rfl
  (have zF := an h1 (an h2 h3); (refine go0 ?_ <;> repeat (refine dr ?_; refine go0 ?_)) <;> first | exact nop | clear zF)
  refine callC (l3Cut t ht) ?_
  rw [hc]
  have hx5 : (stB (sizB ++ q)).size = 5 + q.length := by rw [stB_size, hq5]
  have hxe : (stB (sizB ++ q)).extract 5 (5 + q.length) = stB q := by
    rw [ext_cur]
    unfold curB
    rw [bt_stB, List.take_of_length_le (by omega), show (sizB ++ q).drop 5 = q from List.drop_left' rfl]
  have hxi : 5 + ((5 : Int) + (q.length : Int) - 5).toNat = 5 + q.length := by omega
  (have zF := an hx5 (an hxe hxi); (refine go0 ?_ <;> repeat (refine dr ?_; refine go0 ?_)) <;> first | exact nop | clear zF)
  refine callC (l3Number (stB q) (by rw [stB_size]; omega)) ?_
  rw [bt_stB]
  (have zF := an hx5 (an hxe hxi); (refine go0 ?_ <;> repeat (refine dr ?_; refine go0 ?_)) <;> first | exact nop | clear zF)
  refine loop_ind (α := Nat) (fun j => j ≤ L.length - 1)
    (fun j => ⟨[(0, .sc (.string t)), (1, .sc (.int .i64 w)), (4, .pt 1 0 0), (6, .ow 3 0 (L.length + 1)), (7, .pt 4 0 0), (8, .sc (.int .i64 (j + 1)))],
      [(1, .bx [.sc (.int .i64 0), .ow 2 0 0]), (2, .ar 1 0 []), (3, .ar 1 0 (strR (stB (sizB ++ q)) :: (L.map stB).map strR)), (4, .bx [.sc (.int .i64 (numB q)), .ow 5 0 ((L.take j).map fun x => stB (unhex x)).length]), (5, .ar 1 0 (((L.take j).map fun x => stB (unhex x)).map strR))], 6⟩) (fun j => L.length - j) 0 (Nat.zero_le _) ?_ ?_
  · ((refine rF41_1 ?_) <;> try exact nop)
  intro j hj ih
  have hjl : ((L.take j).map fun x => stB (unhex x)).length = j := by rw [List.length_map, List.length_take]; omega
  by_cases h : j + 1 < L.length
  · obtain ⟨x, hx⟩ := ex_get (show j < L.length by omega)
    have hxs := hLs x (List.mem_cons_of_mem _ (List.mem_of_getElem? hx))
    have hst : ((L.take (j + 1)).map fun x => stB (unhex x)) = ((L.take j).map fun x => stB (unhex x)) ++ [stB (unhex x)] := by rw [take_step hx, List.map_append]; rfl
    have e1 : ((j : Int) + 1).toNat = j + 1 := by omega
    obtain ⟨D, hD⟩ : ∃ D, D = ((L.take j).map fun x => stB (unhex x)) := ⟨_, rfl⟩
    rw [← hD] at hjl hst ⊢
    (have zF := an h (an hx e1); (refine go1 ?_ <;> repeat (refine dr ?_; refine go1 ?_)) <;> first | exact nop | clear zF)
    refine callC (l3Bytes (stB x) (by rw [stB_size]; omega)) ?_
    rw [bt_stB]
    (have zF := an h (an hx e1); (refine go1 ?_ <;> repeat (refine dr ?_; refine go1 ?_)) <;> first | exact nop | clear zF)
    refine ih (j + 1) _ (by omega) (by omega) ?_
    rw [hst]
    ((refine rF41_0 ?_) <;> try exact nop)
  · have hj : j = L.length - 1 := by omega
    have hPj : P = ⟨numB q, (L.take j).map fun x => stB (unhex x)⟩ := by rw [hP, hj]
    have hPS : ((L.take j).map fun x => stB (unhex x)) = P.S := by rw [hPj]
    have hPz : numB q = P.sz := by rw [hPj]
    rw [hPS, hPz]
    rw [hPS] at hjl
    (have zF := h; (refine go1 ?_ <;> repeat (refine dr ?_; refine go1 ?_)) <;> first | exact nop | clear zF)
    refine callC (specFormList P w (by omega)) ?_
    by_cases e : formL P w = t
    · rw [if_pos e] at hM
      subst hM
      (have zF := e; (refine go0 ?_ <;> repeat (refine dr ?_; refine go0 ?_)) <;> first | exact nop | clear zF)
    · rw [if_neg e] at hM
      subst hM
      (have zF := e; (refine go0 ?_ <;> repeat (refine dr ?_; refine go0 ?_)) <;> first | exact nop | clear zF)
end Go.Proofs.YtkkmgjhfjhcdmaaGreatDoor.Mx

namespace Go.Proofs.YtkkmgjhfjhcdmaaGreatDoor.Mx
open Go Go.RowKit Go.Proofs
theorem rF42_0 {p q : Prop} (k : q) (h : p = q := by conv => lhs; simp -dsimp (disch := first | omega | (simp only [zF, wr_id, stB_size, LR] <;> omega) | fail) only [push_cast, zF, wr_id, stB_size, simprocAttr, -Nat.reduceSubDiff]) : p := h.mpr k
theorem rF42_1 {p q : Prop} (k : q) (h : p = q := by conv => lhs; simp -dsimp (disch := first | omega | (simp only [zF, isC, pNil, LR] <;> omega) | fail) only [push_cast, zF, isC, pNil, simprocAttr, -Nat.reduceSubDiff]) : p := h.mpr k
theorem rF42_2 {p q : Prop} (k : q) (h : p = q := by conv => lhs; simp -dsimp (disch := first | omega | (simp only [zF, wr_id, isC, pNil, LR] <;> omega) | fail) only [push_cast, zF, wr_id, isC, pNil, simprocAttr, -Nat.reduceSubDiff]) : p := h.mpr k
theorem rF42_3 {p q : Prop} (k : q) (h : p = q := by conv => lhs; simp -dsimp (disch := first | omega | (simp only [zF, isC, pNil, wr_id, LR] <;> omega) | fail) only [push_cast, zF, isC, pNil, wr_id, simprocAttr, -Nat.reduceSubDiff]) : p := h.mpr k
theorem rF42_4 {p q : Prop} (k : q) (h : p = q := by conv => lhs; simp -dsimp (disch := first | omega | (simp only [zF, List.take_zero, List.map_nil, LR] <;> omega) | fail) only [push_cast, zF, List.take_zero, List.map_nil, simprocAttr, -Nat.reduceSubDiff]) : p := h.mpr k
theorem rF42_5 {p q : Prop} (k : q) (h : p = q := by conv => lhs; simp -dsimp (disch := first | omega | (simp only [zF, wr_id, List.map_append, List.length_append, List.length_cons, List.length_nil, List.map_cons, List.map_nil, stB, LR] <;> omega) | fail) only [push_cast, zF, wr_id, List.map_append, List.length_append, List.length_cons, List.length_nil, List.map_cons, List.map_nil, stB, simprocAttr, -Nat.reduceSubDiff]) : p := h.mpr k
theorem pre_of {s p : List UInt8} (h : Lib.hasPrefix s p = true) : ∃ q, s = p ++ q ∧ Lib.trimPrefix s p = q := by
  unfold Lib.trimPrefix
  rw [if_pos h]
  obtain ⟨q, hq⟩ := List.isPrefixOf_iff_prefix.1 h
  exact ⟨q, hq.symm, by rw [← hq, List.drop_left' rfl]⟩
theorem pre_app {p q : List UInt8} : Lib.hasPrefix (p ++ q) p = true ∧ Lib.trimPrefix (p ++ q) p = q := by
  have h : Lib.hasPrefix (p ++ q) p = true := List.isPrefixOf_iff_prefix.2 ⟨q, rfl⟩
  refine ⟨h, ?_⟩
  unfold Lib.trimPrefix
  rw [if_pos h, List.drop_left' rfl]
theorem v_fin : ∀ d : _root_.Fin 16, Lib.Hx.v (Lib.Hx.digit d.val) = d.val := by decide +kernel
theorem hex_at {S : List Str} {L : List (List UInt8)} {m : Nat} (h : L = hexL S ++ [[]]) (hm : L.length = m + 1) : S.length = m ∧ ∀ j x, j < m → L[j]? = some x → ∃ s, S[j]? = some s ∧ x = Lib.Hx.encode (bt s) := by
  have hl : S.length = m := by
    rw [h, List.length_append, hexL, List.length_map] at hm
    simpa using hm
  refine ⟨hl, fun j x hj hx => ?_⟩
  have hh : (hexL S).length = S.length := by unfold hexL; rw [List.length_map]
  rw [h, List.getElem?_append_left (by omega)] at hx
  unfold hexL at hx
  rw [List.getElem?_map] at hx
  cases hs : S[j]? with
  | none => rw [hs] at hx; cases hx
  | some s => rw [hs] at hx; cases hx; exact ⟨s, rfl, rfl⟩
theorem dec_enc : ∀ l : List UInt8, Lib.Hx.decode (Lib.Hx.encode l) = (l, .ok)
  | [] => by rw [show Lib.Hx.encode [] = [] from rfl, Lib.Hx.decode_nil]
  | b :: r => by
    have hb : b.toNat < 256 := b.toNat_lt
    have h1 := v_fin ⟨b.toNat / 16, by omega⟩
    have h2 := v_fin ⟨b.toNat % 16, by omega⟩
    simp only at h1 h2
    rw [show Lib.Hx.encode (b :: r) = Lib.Hx.digit (b.toNat / 16) :: Lib.Hx.digit (b.toNat % 16) :: Lib.Hx.encode r from rfl, Lib.Hx.decode_two, h1, h2, if_neg (by omega), if_neg (by omega), dec_enc r]
    have : b.toNat / 16 * 16 + b.toNat % 16 = b.toNat := by omega
    rw [this]
    simp
theorem decL_hex {S : List Str} : (hexL S).map (fun x => stB (Lib.Hx.decode x).1) = S := by
  unfold hexL
  rw [List.map_map]
  conv => rhs; rw [← List.map_id S]
  apply List.map_congr_left
  intro x _
  show stB (Lib.Hx.decode (Lib.Hx.encode (bt x))).1 = x
  rw [dec_enc, stB_bt]
def E100 : Env := { T := T0, kp := look [(0, [0, 1]), (1, [0, 1, 4]), (2, [0, 1, 4, 6]), (3, [0, 1, 4, 6, 7, 8]), (4, [4]), (5, [0, 1, 4, 6, 7]), (6, [0, 1, 4, 6, 9, 10]), (7, [4]), (8, [0, 1, 4, 6, 9]), (9, [0, 1, 4, 6, 11]), (10, [0, 1, 4, 11, 56, 57, 58]), (11, [0, 1, 4, 11, 56, 57, 58]), (12, [0, 1, 4, 11, 13, 56, 57, 58]), (13, [0, 1, 4, 11, 14, 15, 56, 57, 58]), (14, [4]), (15, [0, 1, 4, 11, 14, 56, 57, 58]), (16, [0, 1, 4, 11, 56, 57, 58]), (17, [0, 1, 4, 11]), (18, [4]), (19, [4, 11])] }
attribute [local push_cast] E100
set_option maxRecDepth 20000 in
set_option maxHeartbeats 1000000 in
theorem implReadList (t : Str) (w : Int) (ht : t.size ≤ 10000000) : Does Tryz.prog 100 [.sc (.string t), .sc (.int .i64 w)] (.tu [.ag (lstC true (readL t w).1), .sc (.bool (readL t w).2)], []) := by
  refine does_of (E := E100) (rs := [.cell 4 96, .tmp 5]) (lent := []) tOk rfl Tryz.func100 rfl (by decide) rfl rfl (Nat.le_of_ble_eq_true rfl) (Nat.le_of_ble_eq_true rfl) ?_
  obtain ⟨M, hM⟩ : ∃ M, M = readL t w := ⟨_, rfl⟩
  rw [← hM]
  obtain ⟨K, hK⟩ : ∃ K, K = cutL 10 (bt t) := ⟨_, rfl⟩
  have bad : (∀ l, okLs l w = true → stB (formB l) = t → K = (sizB ++ Lib.decDigits l.sz.toNat) :: (hexL l.S ++ [[]]) → False) → M = ((⟨0, []⟩ : Lst), false) := fun h => by
    rw [hM]
    exact read_no fun l h1 h2 => h l h1 h2 (by rw [hK, ← h2, bt_stB, cut_form])
  have hKn := cutF_len 10 (bt t) [] []
  have hKs := cutF_sz 10 (bt t) [] [] t.size (by simp) (by rw [bt_len]; simp)
  have hKe := cutF_ne 10 (bt t) [] []
  rw [show cutF 10 [] [] (bt t) = cutL 10 (bt t) from rfl, ← hK] at hKn hKs hKe
  rw [bt_len, List.length_nil] at hKn
  have hsp := splitNl t ht
  rw [← hK] at hsp
  ((refine go0 ?_ <;> repeat (refine dr ?_; refine go0 ?_)) <;> try exact nop)
  refine callC hsp ?_
  obtain ⟨a, L, hc⟩ : ∃ a L, K = a :: L := by
    cases K with
    | nil => exact (hKe rfl).elim
    | cons a L => exact ⟨a, L, rfl⟩
  rw [hc] at bad hKn hKs ⊢
  have has := hKs a (List.mem_cons_self ..)
  ((refine go0 ?_ <;> repeat (refine dr ?_; refine go0 ?_)) <;> try exact nop)
  refine callC (cutPrefix (stB a) ⟨#[115, 105, 122, 101, 32]⟩) ?_
  rw [bt_stB, show bt ⟨#[115, 105, 122, 101, 32]⟩ = sizB from rfl]
  cases hp : Lib.hasPrefix a sizB with
  | false =>
    have hM := bad fun l _ _ h => by
      injection h with h1 h2
      rw [h1, pre_app.1] at hp; cases hp
    subst hM
    ((refine go0 ?_ <;> repeat (refine dr ?_; refine go0 ?_)) <;> try exact nop)
  | true =>
  obtain ⟨q, hq, hq2⟩ := pre_of hp
  rw [hq2]
  have hql : a.length = 5 + q.length := by rw [hq, List.length_append]; rfl
  -- the last line
  obtain ⟨b, hb⟩ : ∃ b, (a :: L)[L.length]? = some b := ex_get (by simp)
  have hbm : (([AV.sc (Value.string (stB a))] :: List.map strR (List.map stB L)) : List Row)[L.length]? = some [AV.sc (Value.string (stB b))] := by
    show (((a :: L).map stB).map strR)[L.length]? = _
    rw [List.getElem?_map, List.getElem?_map, hb]; rfl
  rw [List.length_cons] at hKn
  have hLn : L.length ≤ 10000000 := by omega
  have e0 : wr .i64 ((L.length : Int) + 1 - 1) = (L.length : Int) := by rw [show (L.length : Int) + 1 - 1 = L.length by omega]; exact wr_id (by omega) (by omega)
  by_cases hb0 : stB b = ⟨#[]⟩
  rotate_left
  · have hM := bad fun l _ _ h => by
      rw [h] at hb
      injection h with h1 h2
      rw [h2, List.length_append, List.length_cons, List.length_nil, List.getElem?_cons_succ, List.getElem?_append_right (by omega)] at hb
      simp at hb
      exact hb0 (by rw [← hb]; rfl)
    subst hM
    (have zF := an hbm (an e0 hb0); (refine go1 ?_ <;> repeat (refine dr ?_; refine go1 ?_)) <;> first | exact nop | clear zF)
  by_cases h4 : 4 < q.length
  · have hM := bad fun l hl _ h => by
      obtain ⟨_, _, s0, s3, _, _⟩ := okLs_up hl
      injection h with h1 h2
      have h3 := dec_len4 (n := l.sz.toNat) (by omega)
      rw [h1] at hql
      rw [List.length_append, show sizB.length = 5 from rfl] at hql
      omega
    subst hM
    (have zF := an hbm (an e0 (an hb0 h4)); (refine rF42_0 ?_ <;> repeat (refine dr ?_; refine rF42_0 ?_)) <;> first | exact nop | clear zF)
  (have zF := an hbm (an e0 (an hb0 h4)); (refine rF42_0 ?_ <;> repeat (refine dr ?_; refine rF42_0 ?_)) <;> first | exact nop | clear zF)
  cases hA : Lib.atoi q with
  | none =>
    have hM := bad fun l _ _ h => by
      injection h with h1 h2
      rw [hq] at h1
      rw [List.append_cancel_left h1, atoi_dec] at hA
      cases hA
    subst hM
    refine callC (atoi_no (stB q) (by rw [stB_size]; omega) (by rw [bt_stB]; exact hA)) ?_
    ((refine rF42_1 ?_ <;> repeat (refine dr ?_; refine rF42_1 ?_)) <;> try exact nop)
  | some n =>
  refine callC (atoi_yes (stB q) n (by rw [stB_size]; omega) (by rw [bt_stB]; exact hA)) ?_
  have hL0 : L.length ≠ 0 := fun h0 => by
    rw [h0] at hb
    have hb : a = b := Option.some.inj hb
    have := congrArg ByteArray.size hb0
    rw [stB_size, ← hb, hql] at this
    have e : (⟨#[]⟩ : ByteArray).size = 0 := rfl
    omega
  obtain ⟨m, hm⟩ : ∃ m, L.length = m + 1 := ⟨L.length - 1, by omega⟩
  have e1 : wr .i64 ((m : Int) + 1 + 1 - 1) = ((m + 1 : Nat) : Int) := by rw [show (m : Int) + 1 + 1 - 1 = ((m + 1 : Nat) : Int) by omega]; exact wr_id (by omega) (by omega)
  have e2 : ((m : Int) + 1 - 1).toNat = m := by omega
  rw [hm]
  (have zF := an hm (an e1 e2); (refine rF42_2 ?_ <;> repeat (refine dr ?_; refine rF42_2 ?_)) <;> first | exact nop | clear zF)
  have hLx : ∀ l : Lst, a :: L = (sizB ++ Lib.decDigits l.sz.toNat) :: (hexL l.S ++ [[]]) → L = hexL l.S ++ [[]] := fun l h => by injection h
  refine loop_ind (α := Nat) (fun j => j ≤ m ∧ j ≤ 376)
    (fun j => ⟨[(0, .sc (.string t)), (1, .sc (.int .i64 w)), (4, .pt 1 0 0), (11, .pt 3 0 0), (56, .ow 5 1 m), (57, .sc (.int .i64 m)), (58, .sc (.int .i64 j))],
      [(1, .bx [.sc (.int .i64 0), .ow 2 0 0]), (2, .ar 1 0 []), (3, .bx [.sc (.int .i64 n), .ow 4 0 ((L.take j).map fun x => stB (Lib.Hx.decode x).1).length]), (4, .ar 1 0 (((L.take j).map fun x => stB (Lib.Hx.decode x).1).map strR)), (5, .ar 1 0 ([.sc (.string (stB a))] :: (L.map stB).map strR))], 6⟩) (fun j => m - j) 0 ⟨Nat.zero_le _, Nat.zero_le _⟩ ?_ ?_
  · ((refine rF42_4 ?_) <;> try exact nop)
  rintro j ⟨hj, hj3⟩ ih
  have hjl : ((L.take j).map fun x => stB (Lib.Hx.decode x).1).length = j := by rw [List.length_map, List.length_take]; omega
  obtain ⟨D, hD⟩ : ∃ D, D = ((L.take j).map fun x => stB (Lib.Hx.decode x).1) := ⟨_, rfl⟩
  by_cases h : j < m
  · obtain ⟨x, hx⟩ := ex_get (show j < L.length by omega)
    have hxs := hKs x (List.mem_cons_of_mem _ (List.mem_of_getElem? hx))
    have hst : ((L.take (j + 1)).map fun x => stB (Lib.Hx.decode x).1) = D ++ [stB (Lib.Hx.decode x).1] := by rw [take_step hx, List.map_append, hD]; rfl
    have hx1 : (([AV.sc (Value.string (stB a))] :: List.map strR (List.map stB L)) : List Row)[1 + j]? = some [AV.sc (Value.string (stB x))] := by
      rw [Nat.add_comm, List.getElem?_cons_succ, List.getElem?_map, List.getElem?_map, hx]; rfl
    have hdl := Lib.Hx.decode_len x
    rw [← hD] at hjl ⊢
    (have zF := an hx (an hx1 h); (refine go0 ?_ <;> repeat (refine dr ?_; refine go0 ?_)) <;> first | exact nop | clear zF)
    refine callC (hexDec (stB x) (by rw [stB_size]; omega)) ?_
    rw [bt_stB]
    cases hd : (Lib.Hx.decode x).2 with
    | ok =>
      rw [show decA x = .sc .nilIface by unfold decA; rw [hd]]
      by_cases h7 : 375 < j
      · have hM := bad fun l hl _ h => by
          obtain ⟨h1, _⟩ := hex_at (hLx l h) hm
          obtain ⟨_, _, _, _, hn, _⟩ := okLs_up hl
          omega
        subst hM
        (have zF := an hjl h7; (refine rF42_1 ?_ <;> repeat (refine dr ?_; refine rF42_1 ?_)) <;> first | exact nop | clear zF)
      · (have zF := an hjl h7; (refine rF42_3 ?_ <;> repeat (refine dr ?_; refine rF42_3 ?_)) <;> first | exact nop | clear zF)
        refine ih (j + 1) _ (by omega) ⟨h, by omega⟩ ?_
        rw [hst]
        (have zF := hjl; (refine rF42_5 ?_) <;> first | exact nop | clear zF)
    | bad c =>
      have hM := bad fun l hl _ h3 => by
        obtain ⟨_, h2⟩ := hex_at (hLx l h3) hm
        obtain ⟨s, _, hs⟩ := h2 j x h hx
        rw [hs, dec_enc] at hd; cases hd
      subst hM
      rw [show decA x = .er by unfold decA; rw [hd]]
      (have zF := hjl; (refine rF42_1 ?_ <;> repeat (refine dr ?_; refine rF42_1 ?_)) <;> first | exact nop | clear zF)
    | odd =>
      have hM := bad fun l hl _ h3 => by
        obtain ⟨_, h2⟩ := hex_at (hLx l h3) hm
        obtain ⟨s, _, hs⟩ := h2 j x h hx
        rw [hs, dec_enc] at hd; cases hd
      subst hM
      rw [show decA x = .er by unfold decA; rw [hd]]
      (have zF := hjl; (refine rF42_1 ?_ <;> repeat (refine dr ?_; refine rF42_1 ?_)) <;> first | exact nop | clear zF)
  · have hj : j = m := by omega
    rw [← hD] at hjl ⊢
    (have zF := h; (refine go0 ?_ <;> repeat (refine dr ?_; refine go0 ?_)) <;> first | exact nop | clear zF)
    refine callC (implFormList ⟨n, D⟩ w (by show D.length ≤ _; omega)) ?_
    by_cases e : formL ⟨n, D⟩ w = t
    · have h5 : 1 ≤ t.size := by
        have := hKs a (List.mem_cons_self ..)
        omega
      obtain ⟨o1, o2⟩ := formL_ok e h5
      have hM : M = (⟨n, D⟩, true) := by rw [hM]; exact read_of o1 o2
      subst hM
      (have zF := an e hjl; (refine go0 ?_ <;> repeat (refine dr ?_; refine go0 ?_)) <;> first | exact nop | clear zF)
    · have hM := bad fun l hl hf h3 => by
        have h6 := hLx l h3
        have h7 : D = l.S := by
          obtain ⟨h8, _⟩ := hex_at h6 hm
          have hh : (hexL l.S).length = m := by unfold hexL; rw [List.length_map]; exact h8
          rw [hD, hj, h6, List.take_left' hh, decL_hex]
        have h9 : n = l.sz := by
          obtain ⟨_, _, s0, _, _, _⟩ := okLs_up hl
          injection h3 with h1 h2
          rw [hq] at h1
          rw [List.append_cancel_left h1, atoi_dec] at hA
          have := Option.some.inj hA
          omega
        apply e
        rw [h7, h9]
        unfold formL
        rw [if_pos hl]; exact hf
      subst hM
      (have zF := an e hjl; (refine go0 ?_ <;> repeat (refine dr ?_; refine go0 ?_)) <;> first | exact nop | clear zF)
end Go.Proofs.YtkkmgjhfjhcdmaaGreatDoor.Mx

namespace Go.Proofs.YtkkmgjhfjhcdmaaGreatDoor.Mx
open Go Go.RowKit Go.Proofs
def E67 : Env := { T := T0, kp := look [(0, [0, 1]), (1, [1, 2]), (2, [1, 2, 5]), (3, [1, 2, 5]), (4, [1, 2, 5]), (5, [5]), (6, [])], dp := look2 [(4, [[], [0], [], [0, 1, 2], [0, 1, 2, 3], [0, 1, 2, 3, 4], [], [6], [0, 1, 2, 3, 4, 5, 6, 7], [], [0, 1, 2, 3, 4, 5, 6, 7, 8, 9]])] }
attribute [local push_cast] E67
set_option maxHeartbeats 1000000 in
theorem l4At (s : Store) (n : Str) (hs : okStore s) : Does Tryz.prog 67 [.ag (storeC false s), .sc (.string n)] (.sc (.int .i64 (atI s.w n s.I)), []) := by
  refine does_of (E := E67) (rs := [.tmp 4]) (lent := []) tOk rfl Tryz.func67 rfl (by decide) rfl rfl (Nat.le_of_ble_eq_true rfl) (Nat.le_of_ble_eq_true rfl) ?_
  obtain ⟨M, hM⟩ : ∃ M, M = atI s.w n s.I := ⟨_, rfl⟩
  rw [← hM]
  have hl := hs.1.1
  ((refine go0 ?_ <;> repeat (refine dr ?_; refine go0 ?_)) <;> try exact nop)
  refine loop_ind (α := Nat) (fun i => i ≤ s.I.length ∧ ∀ j y, j < i → s.I[j]? = some y → sumS y.t s.w ≠ n)
    (fun i => ⟨[(1, .sc (.string n)), (2, .pt 1 0 0), (5, .sc (.int .i64 i))], [(1, .bx (storeC false s))], 2⟩) (fun i => s.I.length - i) 0 ⟨Nat.zero_le _, fun j y h => by omega⟩ ?_ ?_
  · ((refine go0 ?_) <;> try exact nop)
  rintro i ⟨hi, hq⟩ ih
  by_cases h : i < s.I.length
  · obtain ⟨x, hx⟩ := ex_get h
    have hxt : x.t.size ≤ 2097152 := hs.1.2 x (List.mem_of_getElem? hx)
    (have zF := an h hx; (refine go0 ?_ <;> repeat (refine dr ?_; refine go0 ?_)) <;> first | exact nop | clear zF)
    refine callC (specSum x.t s.w (by omega)) ?_
    by_cases e : sumS x.t s.w = n
    · rw [at_some hq hx e] at hM
      (have zF := an e hM; (refine go0 ?_ <;> repeat (refine dr ?_; refine go0 ?_)) <;> first | exact nop | clear zF)
    · (have zF := e; (refine go0 ?_ <;> repeat (refine dr ?_; refine go0 ?_)) <;> first | exact nop | clear zF)
      refine ih (i + 1) _ (by omega) ⟨h, fun j y hj hy => ?_⟩ ?_
      · by_cases ej : j = i
        · subst ej; rw [hx] at hy; cases hy; exact e
        · exact hq j y (by omega) hy
      · ((refine go1 ?_) <;> try exact nop)
  · rw [at_none (fun y hy => by obtain ⟨j, hj⟩ := List.getElem?_of_mem hy; exact hq j y (by have := (List.getElem?_eq_some_iff.1 hj).1; omega) hj)] at hM
    (have zF := an h hM; (refine go0 ?_ <;> repeat (refine dr ?_; refine go0 ?_)) <;> first | exact nop | clear zF)
def E65 : Env := { T := T0, kp := look [(0, [0, 1]), (1, [1, 2]), (2, [1, 2, 8, 9, 10]), (3, [1, 2, 8, 9, 10]), (4, [1, 2, 5, 6, 8, 9, 10]), (5, [5]), (6, [1, 2, 8, 9, 10]), (7, [])] }
attribute [local push_cast] E65
set_option maxHeartbeats 1000000 in
theorem find (s : Store) (n : Str) (hs : okStore s) : Does Tryz.prog 65 [.ag (storeC false s), .sc (.string n)] (.sc (.int .i64 (atI s.w n s.I)), []) := by
  refine does_of (E := E65) (rs := [.tmp 4]) (lent := []) tOk rfl Tryz.func65 rfl (by decide) rfl rfl (Nat.le_of_ble_eq_true rfl) (Nat.le_of_ble_eq_true rfl) ?_
  obtain ⟨M, hM⟩ : ∃ M, M = atI s.w n s.I := ⟨_, rfl⟩
  rw [← hM]
  have hl := hs.1.1
  ((refine go0 ?_ <;> repeat (refine dr ?_; refine go0 ?_)) <;> try exact nop)
  refine loop_ind (α := Nat) (fun i => i ≤ s.I.length ∧ ∀ j y, j < i → s.I[j]? = some y → sumS y.t s.w ≠ n)
    (fun i => ⟨[(1, .sc (.string n)), (2, .pt 1 0 0), (8, .sl false 2 (s.I.map (itemC false))), (9, .sc (.int .i64 s.I.length)), (10, .sc (.int .i64 i))], [(1, .bx (storeC false s))], 2⟩) (fun i => s.I.length - i) 0 ⟨Nat.zero_le _, fun j y h => by omega⟩ ?_ ?_
  · ((refine go0 ?_) <;> try exact nop)
  rintro i ⟨hi, hq⟩ ih
  by_cases h : i < s.I.length
  · obtain ⟨x, hx⟩ := ex_get h
    have hxt : x.t.size ≤ 2097152 := hs.1.2 x (List.mem_of_getElem? hx)
    (have zF := an h hx; (refine go0 ?_ <;> repeat (refine dr ?_; refine go0 ?_)) <;> first | exact nop | clear zF)
    refine callC (implSum x.t s.w (by omega)) ?_
    by_cases e : sumS x.t s.w = n
    · rw [at_some hq hx e] at hM
      (have zF := an e hM; (refine go0 ?_ <;> repeat (refine dr ?_; refine go0 ?_)) <;> first | exact nop | clear zF)
    · (have zF := e; (refine go0 ?_ <;> repeat (refine dr ?_; refine go0 ?_)) <;> first | exact nop | clear zF)
      refine ih (i + 1) _ (by omega) ⟨h, fun j y hj hy => ?_⟩ ?_
      · by_cases ej : j = i
        · subst ej; rw [hx] at hy; cases hy; exact e
        · exact hq j y (by omega) hy
      · ((refine go1 ?_) <;> try exact nop)
  · rw [at_none (fun y hy => by obtain ⟨j, hj⟩ := List.getElem?_of_mem hy; exact hq j y (by have := (List.getElem?_eq_some_iff.1 hj).1; omega) hj)] at hM
    (have zF := an h hM; (refine go0 ?_ <;> repeat (refine dr ?_; refine go0 ?_)) <;> first | exact nop | clear zF)
def E112 : Env := { T := T0, kp := look [(0, [0, 1]), (1, [1, 2, 4]), (2, [2, 4, 6]), (3, [4]), (4, [2, 4, 6])], dp := look2 [(4, [[], [0], [], [0, 1, 2], [0, 1, 2, 3], [0, 1, 2, 3, 4], [], [6], [0, 1, 2, 3, 4, 5, 6, 7], [0, 1, 2, 3, 4, 5, 6, 7, 8], [0, 1, 2, 3, 4, 5, 6, 7, 8], [0, 1, 2, 3, 4, 5, 6, 7, 8, 9, 10], [0, 1, 2, 3, 4, 5, 6, 7, 8, 9, 10, 11]])] }
attribute [local push_cast] E112
set_option maxHeartbeats 1000000 in
theorem l4List (s : Store) (n : Str) (hs : okStore s) : Does Tryz.prog 112 [.ag (storeC false s), .sc (.string n)] (.tu [.ag (lstC true (listF s n).1), .sc (.bool (listF s n).2)], []) := by
  refine does_of (E := E112) (rs := [.cell 4 96, .tmp 5]) (lent := []) tOk rfl Tryz.func112 rfl (by decide) rfl rfl (Nat.le_of_ble_eq_true rfl) (Nat.le_of_ble_eq_true rfl) ?_
  obtain ⟨M, hM⟩ : ∃ M, M = listF s n := ⟨_, rfl⟩
  rw [← hM]
  have hl := hs.1.1
  ((refine go0 ?_ <;> repeat (refine dr ?_; refine go0 ?_)) <;> try exact nop)
  refine callC (l4At s n hs) ?_
  unfold listF at hM
  by_cases h : atI s.w n s.I < 0
  · rw [if_pos h] at hM
    subst hM
    (have zF := h; (refine go0 ?_ <;> repeat (refine dr ?_; refine go0 ?_)) <;> first | exact nop | clear zF)
  obtain ⟨i, x, h1, h2, _⟩ := at_get (w := s.w) (n := n) (I := s.I) (by omega)
  have hxt : x.t.size ≤ 2097152 := hs.1.2 x (List.mem_of_getElem? h2)
  have hil := (List.getElem?_eq_some_iff.1 h2).1
  rw [if_neg h, h1, Int.toNat_natCast, h2] at hM
  simp only at hM
  rw [h1]
  (have zF := h2; (refine go0 ?_ <;> repeat (refine dr ?_; refine go0 ?_)) <;> first | exact nop | clear zF)
  refine callC (specReadList x.t s.w (by omega)) ?_
  rw [← hM]
  ((refine go0 ?_ <;> repeat (refine dr ?_; refine go0 ?_)) <;> try exact nop)
end Go.Proofs.YtkkmgjhfjhcdmaaGreatDoor.Mx

namespace Go.Proofs.YtkkmgjhfjhcdmaaGreatDoor.Mx
open Go Go.RowKit Go.Proofs
def E68 : Env := { T := T0, kp := look [(0, [0]), (1, [1]), (2, [1, 3]), (3, [1, 3, 4]), (4, [1, 3, 4]), (5, [1, 3, 4]), (6, [1, 3, 4]), (7, [1, 3, 4, 5, 6]), (8, [1, 3, 4, 5, 6, 7]), (9, [1, 3, 4, 5, 6, 7]), (10, [1, 3, 4, 5, 6, 7]), (11, [3])], dp := look2 [(6, [[], [], [1], [], [1, 2, 3], [1, 2, 3, 4], [0, 1, 2, 3, 4, 5], [0, 1, 2, 3, 4, 5, 6], [0, 1, 2, 3, 4, 5, 6, 7], [0, 1, 2, 3, 4, 5, 6, 7], [], [0, 1, 2, 3, 4, 5, 6, 7, 8, 10], [0, 1, 2, 3, 4, 5, 6, 7, 8, 9, 10, 11]])], md := look3 [(5, 6, [2]), (10, 6, [2])] }
attribute [local push_cast] E68
set_option maxRecDepth 20000 in
set_option maxHeartbeats 1000000 in
theorem l4Needed (s : Store) (hs : okStore s) (hP : s.P.length ≤ 10) : Does Tryz.prog 68 [.ag (storeC false s)] (.sl true 1 (((nmsL s).foldl addS []).map strR), []) := by
  refine does_of (E := E68) (rs := [.tmp 2]) (lent := []) tOk rfl Tryz.func68 rfl (by decide) rfl rfl (Nat.le_of_ble_eq_true rfl) (Nat.le_of_ble_eq_true rfl) ?_
  obtain ⟨M, hM⟩ : ∃ M, M = (nmsL s).foldl addS [] := ⟨_, rfl⟩
  rw [← hM]
  unfold nmsL at hM
  ((refine go0 ?_ <;> repeat (refine dr ?_; refine go0 ?_)) <;> try exact nop)
  refine loop_ind (α := Nat × List Str) (fun q => q.1 ≤ s.P.length ∧ q.2 = ((s.P.take q.1).flatMap (nmsF s)).foldl addS [])
    (fun q => ⟨[(1, .pt 1 0 0), (3, .ow 2 0 q.2.length), (4, .sc (.int .i64 q.1))], [(1, .bx (storeC false s)), (2, .ar 1 0 (q.2.map strR))], 3⟩) (fun q => s.P.length - q.1) (0, []) ⟨Nat.zero_le _, rfl⟩ ?_ ?_
  · ((refine go0 ?_) <;> try exact nop)
  rintro ⟨i, A⟩ ⟨hi, hA⟩ ih
  replace hi : i ≤ s.P.length := hi
  replace hA : A = ((s.P.take i).flatMap (nmsF s)).foldl addS [] := hA
  have hAl : A.length ≤ 3760 := by
    have h1 := foldS_len ((s.P.take i).flatMap (nmsF s)) []
    have h2 := nms_len s (s.P.take i)
    rw [← hA, List.length_nil] at h1
    rw [List.length_take] at h2
    omega
  by_cases h : i < s.P.length
  · obtain ⟨p, hp⟩ := ex_get h
    have hst := nms_step hp
    (have zF := an h hp; (refine go0 ?_ <;> repeat (refine dr ?_; refine go0 ?_)) <;> first | exact nop | clear zF)
    refine callC (l4Add A p (by omega)) ?_
    (have zF := an h hp; (refine go0 ?_ <;> repeat (refine dr ?_; refine go0 ?_)) <;> first | exact nop | clear zF)
    refine callC (l4List s p hs) ?_
    have hlo := list_ok (s := s) (n := p)
    have hlf := list_false (s := s) (n := p)
    rw [show nmsF s p = p :: (listF s p).1.S from rfl] at hst
    generalize listF s p = R at *
    obtain ⟨l, b⟩ := R
    simp only at hlo hlf hst ⊢
    have hl := hlo.1
    ((refine go0 ?_ <;> repeat (refine dr ?_; refine go0 ?_)) <;> try exact nop)
    refine loop_ind (α := Nat × List Str) (fun q => q.1 ≤ l.S.length ∧ q.2 = (l.S.take q.1).foldl addS (addS A p) ∧ q.2.length ≤ 3761 + q.1)
      (fun q => ⟨[(1, .pt 1 0 0), (3, .ow 2 0 q.2.length), (4, .sc (.int .i64 i)), (5, .pt 3 0 0), (6, .sc (.bool b)), (7, .sc (.int .i64 q.1))], [(1, .bx (storeC false s)), (2, .ar 1 0 (q.2.map strR)), (3, .bx [.sc (.int .i64 l.sz), .ow 4 0 l.S.length]), (4, .ar 1 0 (l.S.map strR))], 5⟩) (fun q => l.S.length - q.1) (0, addS A p) ⟨Nat.zero_le _, rfl, by have := addS_len1 A p; show (addS A p).length ≤ 3761 + 0; omega⟩ ?_ ?_
    · ((refine go0 ?_) <;> try exact nop)
    rintro ⟨j, B⟩ ⟨hj, hB, hBl⟩ ih2
    replace hj : j ≤ l.S.length := hj
    replace hB : B = (l.S.take j).foldl addS (addS A p) := hB
    replace hBl : B.length ≤ 3761 + j := hBl
    have fin : j = l.S.length → B = ((s.P.take (i + 1)).flatMap (nmsF s)).foldl addS [] := fun e => by
      rw [hst, List.foldl_append, ← hA, hB, e, List.take_length]; rfl
    cases b with
    | false =>
      have hS : l.S = [] := by rw [hlf rfl]
      have e : j = l.S.length := by rw [hS] at hj ⊢; simpa using hj
      ((refine go0 ?_ <;> repeat (refine dr ?_; refine go0 ?_)) <;> try exact nop)
      refine ih (i + 1, B) _ (by show s.P.length - (i + 1) < s.P.length - i; omega) ⟨h, fin e⟩ ?_
      ((refine go1 ?_) <;> try exact nop)
    | true =>
    by_cases h2 : j < l.S.length
    · obtain ⟨x, hx⟩ := ex_get h2
      (have zF := an h2 hx; (refine go0 ?_ <;> repeat (refine dr ?_; refine go0 ?_)) <;> first | exact nop | clear zF)
      refine callC (l4Add B x (by omega)) ?_
      ((refine go0 ?_ <;> repeat (refine dr ?_; refine go0 ?_)) <;> try exact nop)
      refine ih2 (j + 1, addS B x) _ (by show l.S.length - (j + 1) < l.S.length - j; omega) ⟨h2, by rw [take_step hx, List.foldl_append, ← hB]; rfl, by have := addS_len1 B x; show (addS B x).length ≤ 3761 + (j + 1); omega⟩ ?_
      ((refine go1 ?_) <;> try exact nop)
    · (have zF := h2; (refine go0 ?_ <;> repeat (refine dr ?_; refine go0 ?_)) <;> first | exact nop | clear zF)
      refine ih (i + 1, B) _ (by show s.P.length - (i + 1) < s.P.length - i; omega) ⟨h, fin (by omega)⟩ ?_
      ((refine go1 ?_) <;> try exact nop)
  · have e : A = M := by rw [hA, hM, List.take_of_length_le (by omega)]
    subst e
    (have zF := h; (refine go0 ?_ <;> repeat (refine dr ?_; refine go0 ?_)) <;> first | exact nop | clear zF)
end Go.Proofs.YtkkmgjhfjhcdmaaGreatDoor.Mx

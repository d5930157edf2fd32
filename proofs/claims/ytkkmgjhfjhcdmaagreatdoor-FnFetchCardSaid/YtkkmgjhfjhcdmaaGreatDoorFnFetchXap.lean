/- A machine over values for Go functions, proved sound, and functions run on it: texts F64, F61, F65, F62, F74, F63. -/
import Derived.Test.YtkkmgjhfjhcdmaaGreatDoorFnFetchXak
import Derived.Test.YtkkmgjhfjhcdmaaGreatDoorFnFetchXal
import Derived.Test.YtkkmgjhfjhcdmaaGreatDoorFnFetchXam
import Derived.Test.YtkkmgjhfjhcdmaaGreatDoorFnFetchXan
import Derived.Test.YtkkmgjhfjhcdmaaGreatDoorFnFetchXao
set_option linter.all false
namespace Go.Proofs.YtkkmgjhfjhcdmaaGreatDoor.Mx
open Go Go.RowKit Go.Proofs
theorem rF64_0 {p q : Prop} (k : q) (h : p = q := by conv => lhs; simp -dsimp (disch := first | omega | (simp only [zF, nextF, LR] <;> omega) | fail) only [push_cast, zF, nextF, simprocAttr, -Nat.reduceSubDiff]) : p := h.mpr k
theorem rF64_1 {p q : Prop} (k : q) (h : p = q := by conv => lhs; simp -dsimp (disch := first | omega | (simp only [zF, askedB, List.take_zero, List.any_nil, LR] <;> omega) | fail) only [push_cast, zF, askedB, List.take_zero, List.any_nil, simprocAttr, -Nat.reduceSubDiff]) : p := h.mpr k
def E86 : Env := { T := T0, kp := look [(0, [0, 1]), (1, [1, 2]), (2, [1, 2, 5]), (3, [1, 2, 5, 6]), (4, [1, 2, 5, 6]), (5, [1, 2, 5, 6]), (6, [1, 2, 5, 6, 7]), (7, [1, 2, 6]), (8, [5])], dp := look2 [(6, [[], [], [0, 1], [0, 1, 2], [0, 1, 2, 3], [0, 1, 2, 3, 4], [0, 1, 2, 3, 4, 5], [0, 1, 2, 3, 4, 5, 6], [0, 1, 2, 3, 4, 5, 6, 7], [0, 1, 2, 3, 4, 5, 6, 7, 8], [0, 1, 2, 3, 4, 5, 6, 7, 8, 9], [0, 1, 2, 3, 4, 5, 6, 7, 8, 9, 10], [0, 1, 2, 3, 4, 5, 6, 7, 8, 9, 10, 11], [0, 1, 2, 3, 4, 5, 6, 7, 8, 9, 10, 11, 12], [0, 1, 2, 3, 4, 5, 6, 7, 8, 9, 10, 11, 12, 13], [0, 1, 2, 3, 4, 5, 6, 7, 8, 9, 10, 11, 12, 13, 14], [0, 1, 2, 3, 4, 5, 6, 7, 8, 9, 10, 11, 12, 13, 14, 15], [0, 1, 2, 3, 4, 5, 6, 7, 8, 9, 10, 11, 12, 13, 14, 15, 16], [0, 1, 2, 3, 4, 5, 6, 7, 8, 9, 10, 11, 12, 13, 14, 15, 16, 17], [0, 1, 2, 3, 4, 5, 6, 7, 8, 9, 10, 11, 12, 13, 14, 15, 16, 17, 18], [0, 1, 2, 3, 4, 5, 6, 7, 8, 9, 10, 11, 12, 13, 14, 15, 16, 17, 18, 19], [0, 1, 2, 3, 4, 5, 6, 7, 8, 9, 10, 11, 12, 13, 14, 15, 16, 17, 18], [0, 1, 2, 3, 4, 5, 6, 7, 8, 9, 10, 11, 12, 13, 14, 15, 16, 17, 18, 21], [0, 1, 2, 3, 4, 5, 6, 7, 8, 9, 10, 11, 12, 13, 14, 15, 16, 17, 18], [0, 1, 2, 3, 4, 5, 6, 7, 8, 9, 10, 11, 12, 13, 14, 15, 16, 17, 18, 21, 22, 23], [0, 1, 2, 3, 4, 5, 6, 7, 8, 9, 10, 11, 12, 13, 14, 15, 16, 17, 18, 21, 22, 23, 24], [0, 1, 2, 3, 4, 5, 6, 7, 8, 9, 10, 11, 12, 13, 14, 15, 16, 17, 18, 21, 22, 23, 24, 25], [0, 1, 2, 3, 4, 5, 6, 7, 8, 9, 10, 11, 12, 13, 14, 15, 16, 17, 18, 19, 20, 21, 22, 23, 24, 25, 26], [0, 1, 2, 3, 4, 5, 6, 7, 8, 9, 10, 11, 12, 13, 14, 15, 16, 17, 18, 19, 20, 21, 22, 23, 24, 25, 26, 27], [0, 1, 2, 3, 4, 5, 6, 7, 8, 9, 10, 11, 12, 13, 14, 15, 16, 17, 18, 19, 20, 21, 22, 23, 24, 25, 26, 27, 28]])] }
attribute [local push_cast] E86
set_option maxRecDepth 20000 in
set_option maxHeartbeats 4000000 in
theorem l7Next (f : Fetch) (S : List Bool) (hf : okFetch f) (hS : S.length = f.Q.length) : Does Tryz.prog 86 [.ag (fetchC false f), .sl false 1 (S.map boolR)] (.sc (.int .i64 (nextF f.Q S f.Q.length)), []) := by
  refine does_of (E := E86) (rs := [.tmp 4]) (lent := []) tOk rfl Tryz.func86 rfl (by decide) rfl rfl (Nat.le_of_ble_eq_true rfl) (Nat.le_of_ble_eq_true rfl) ?_
  obtain ⟨M, hM⟩ : ∃ M, M = nextF f.Q S f.Q.length := ⟨_, rfl⟩
  rw [← hM]
  have hl := hf.2.2.1
  ((refine go0 ?_ <;> repeat (refine dr ?_; refine go0 ?_)) <;> try exact nop)
  refine loop_ind (α := Nat) (fun i => i ≤ f.Q.length)
    (fun i => ⟨[(1, .sl false 1 (S.map boolR)), (2, .pt 1 0 0), (5, .sc (.int .i64 (nextF f.Q S i))), (6, .sc (.int .i64 i))], [(1, .bx (fetchC false f))], 2⟩) (fun i => f.Q.length - i) 0 (Nat.zero_le _) ?_ ?_
  · ((refine rF64_0 ?_) <;> try exact nop)
  intro i hi ih
  by_cases h : i < f.Q.length
  · obtain ⟨p, hp⟩ := ex_get h
    obtain ⟨b, hb⟩ := ex_get (show i < S.length by omega)
    have hst : nextF f.Q S (i + 1) = if b = false ∧ freeP p = true ∧ (nextF f.Q S i < 0 ∨ p.last < lastAt f.Q (nextF f.Q S i)) then (i : Int) else nextF f.Q S i := by rw [nextF, hp, hb]
    have hr := next_rng f.Q S i
    obtain ⟨B, hB⟩ : ∃ B, B = nextF f.Q S i := ⟨_, rfl⟩
    rw [← hB] at hst hr ⊢
    cases b with
    | true =>
      rw [if_neg (by simp)] at hst
      (have zF := an h (an hp hb); (refine go0 ?_ <;> repeat (refine dr ?_; refine go0 ?_)) <;> first | exact nop | clear zF)
      refine ih (i + 1) _ (by omega) h ?_
      rw [hst]
      ((refine go1 ?_) <;> try exact nop)
    | false =>
    by_cases w0 : p.wait = 0
    rotate_left
    · have hfr : freeP p = false := by unfold freeP; simp [w0]
      rw [if_neg (by rw [hfr]; simp)] at hst
      (have zF := an h (an hp (an hb w0)); (refine go0 ?_ <;> repeat (refine dr ?_; refine go0 ?_)) <;> first | exact nop | clear zF)
      refine ih (i + 1) _ (by omega) h ?_
      rw [hst]
      ((refine go1 ?_) <;> try exact nop)
    by_cases l0 : p.lies < 3
    rotate_left
    · have hfr : freeP p = false := by unfold freeP; simp [l0]
      rw [if_neg (by rw [hfr]; simp)] at hst
      (have zF := an h (an hp (an hb (an w0 l0))); (refine go0 ?_ <;> repeat (refine dr ?_; refine go0 ?_)) <;> first | exact nop | clear zF)
      refine ih (i + 1) _ (by omega) h ?_
      rw [hst]
      ((refine go1 ?_) <;> try exact nop)
    have hfr : freeP p = true := by unfold freeP; simp [w0, l0]
    by_cases hB0 : B < 0
    · rw [if_pos ⟨rfl, hfr, .inl hB0⟩] at hst
      (have zF := an h (an hp (an hb (an w0 (an l0 hB0)))); (refine go0 ?_ <;> repeat (refine dr ?_; refine go0 ?_)) <;> first | exact nop | clear zF)
      refine ih (i + 1) _ (by omega) h ?_
      rw [hst]
      ((refine go1 ?_) <;> try exact nop)
    obtain ⟨k, hk⟩ : ∃ k : Nat, B = k := ⟨B.toNat, by omega⟩
    rw [hk] at hst hB0 hr ⊢
    obtain ⟨y, hy⟩ := ex_get (show k < f.Q.length by omega)
    have hua : lastAt f.Q (k : Int) = y.last := by unfold lastAt; rw [Int.toNat_natCast, hy]
    rw [hua] at hst
    by_cases hlt : p.last < y.last
    · rw [if_pos ⟨rfl, hfr, .inr hlt⟩] at hst
      (have zF := an h (an hp (an hb (an hy (an w0 (an l0 (an hB0 hlt)))))); (refine go0 ?_ <;> repeat (refine dr ?_; refine go0 ?_)) <;> first | exact nop | clear zF)
      refine ih (i + 1) _ (by omega) h ?_
      rw [hst]
      ((refine go1 ?_) <;> try exact nop)
    · rw [if_neg (by rintro ⟨_, _, q | q⟩; exact hB0 q; exact hlt q)] at hst
      (have zF := an h (an hp (an hb (an hy (an w0 (an l0 (an hB0 hlt)))))); (refine go0 ?_ <;> repeat (refine dr ?_; refine go0 ?_)) <;> first | exact nop | clear zF)
      refine ih (i + 1) _ (by omega) h ?_
      rw [hst]
      ((refine go1 ?_) <;> try exact nop)
  · have hi : i = f.Q.length := by omega
    subst hi
    (have zF := (hM).symm; (refine go0 ?_ <;> repeat (refine dr ?_; refine go0 ?_)) <;> first | exact nop | clear zF)
def E87 : Env := { T := T0, kp := look [(0, [0, 1, 2]), (1, [1, 2, 3]), (2, [1, 2, 3, 7]), (3, [1, 2, 3, 7]), (4, [1, 2, 3, 7]), (5, [1, 2, 3, 7, 8]), (6, [1, 2, 3, 7, 8, 9]), (7, [1, 2, 3, 7, 8, 9]), (8, [1, 2, 3, 7, 8, 9]), (9, [1, 2, 3, 7, 9]), (10, [1, 2, 3, 7, 8]), (11, [1, 7]), (12, [])], dp := look2 [(4, [[], [0], [], [0, 1, 2], [0, 1, 2, 3], [0, 1, 2, 3, 4], [], [], [6, 7], [6, 7, 8], [0, 1, 2, 3, 4, 5, 6, 7, 8, 9], [0, 1, 2, 3, 4, 5, 6, 7, 8, 9, 10], [0, 1, 2, 3, 4, 5, 6, 7, 8, 9, 10, 11]]), (8, [[], [0], [], [0, 1, 2], [0, 1, 2, 3], [0, 1, 2, 3, 4], [0, 1, 2, 3, 4, 5], [0, 1, 2, 3, 4, 5, 6], [0, 1, 2, 3, 4, 5, 6, 7], [0, 1, 2, 3, 4, 5, 6, 7, 8], [0, 1, 2, 3, 4, 5, 6, 7], [0, 1, 2, 3, 4, 5, 6, 7, 8, 9, 10], [0, 1, 2, 3, 4, 5, 6, 7, 8, 9, 10, 11], [0, 1, 2, 3, 4, 5, 6, 7, 8, 9, 10, 11, 12], [0, 1, 2, 3, 4, 5, 6, 7], [0, 1, 2, 3, 4, 5, 6, 7], [0, 1, 2, 3, 4, 5, 6, 7, 14, 15], [0, 1, 2, 3, 4, 5, 6, 7, 14, 15, 16], [0, 1, 2, 3, 4, 5, 6, 7, 8, 9, 10, 11, 12, 13, 14, 15, 16, 17], [0, 1, 2, 3, 4, 5, 6, 7, 8, 9, 10, 11, 12, 13, 14, 15, 16, 17, 18]])] }
attribute [local push_cast] E87
set_option maxRecDepth 20000 in
set_option maxHeartbeats 4000000 in
theorem l7Choice (f : Fetch) (L : List Str) (at_ : Nat) (p : Peer) (hf : okFetch f) (hL : L.length ≤ 2097152) (hp : f.Q[at_]? = some p) : Does Tryz.prog 87 [.ag (fetchC false f), .sl false 1 (L.map strR), .sc (.int .i64 at_)] (.sc (.string (pickL f.Q p L)), []) := by
  refine does_of (E := E87) (rs := [.tmp 6]) (lent := []) tOk rfl Tryz.func87 rfl (by decide) rfl rfl (Nat.le_of_ble_eq_true rfl) (Nat.le_of_ble_eq_true rfl) ?_
  obtain ⟨M, hM⟩ : ∃ M, M = pickL f.Q p L := ⟨_, rfl⟩
  rw [← hM]
  have hl := hf.2.2.1
  have hpN := (hf.2.2.2 p (List.mem_of_getElem? hp)).2.1
  have hat := (List.getElem?_eq_some_iff.1 hp).1
  ((refine go0 ?_ <;> repeat (refine dr ?_; refine go0 ?_)) <;> try exact nop)
  refine loop_ind (α := Nat) (fun i => i ≤ L.length ∧ pickL f.Q p (L.drop i) = M)
    (fun i => ⟨[(1, .sl false 1 (L.map strR)), (2, .sc (.int .i64 at_)), (3, .pt 1 0 0), (7, .sc (.int .i64 i))], [(1, .bx (fetchC false f))], 2⟩) (fun i => L.length - i) 0 ⟨Nat.zero_le _, by rw [hM]; rfl⟩ ?_ ?_
  · ((refine go0 ?_) <;> try exact nop)
  rintro i ⟨hi, hq⟩ ih
  by_cases h : i < L.length
  rotate_left
  · rw [List.drop_eq_nil_of_le (by omega), pickL] at hq
    subst hq
    (have zF := h; (refine go0 ?_ <;> repeat (refine dr ?_; refine go0 ?_)) <;> first | exact nop | clear zF)
  obtain ⟨x, hx⟩ := ex_get h
  rw [drop_step hx, pickL] at hq
  (have zF := an h (an hx hp); (refine go0 ?_ <;> repeat (refine dr ?_; refine go0 ?_)) <;> first | exact nop | clear zF)
  refine callC (l2In p.N x hpN) ?_
  (have zF := an h (an hx hp); (refine go0 ?_ <;> repeat (refine dr ?_; refine go0 ?_)) <;> first | exact nop | clear zF)
  refine loop_ind (α := Nat) (fun k => k ≤ f.Q.length)
    (fun k => ⟨[(1, .sl false 1 (L.map strR)), (2, .sc (.int .i64 at_)), (3, .pt 1 0 0), (7, .sc (.int .i64 i)), (8, .sc (.bool (!inL p.N x && !askedB (f.Q.take k) x))), (9, .sc (.int .i64 k))], [(1, .bx (fetchC false f))], 2⟩) (fun k => f.Q.length - k) 0 (Nat.zero_le _) ?_ ?_
  · ((refine rF64_1 ?_) <;> try exact nop)
  intro k hk ih2
  by_cases h2 : k < f.Q.length
  · obtain ⟨y, hy⟩ := ex_get h2
    have hst : askedB (f.Q.take (k + 1)) x = (askedB (f.Q.take k) x || (decide (0 < y.wait) && decide (y.ask = x))) := by
      unfold askedB; rw [take_step hy, List.any_append]; simp
    obtain ⟨A, hA⟩ : ∃ A, A = askedB (f.Q.take k) x := ⟨_, rfl⟩
    rw [← hA] at hst ⊢
    by_cases w0 : 0 < y.wait
    · by_cases a0 : y.ask = x
      · (have zF := an h2 (an hx (an hy (an w0 a0))); (refine go0 ?_ <;> repeat (refine dr ?_; refine go0 ?_)) <;> first | exact nop | clear zF)
        refine ih2 (k + 1) _ (by omega) h2 ?_
        rw [hst]
        (have zF := an w0 a0; (refine go1 ?_) <;> first | exact nop | clear zF)
      · (have zF := an h2 (an hx (an hy (an w0 a0))); (refine go0 ?_ <;> repeat (refine dr ?_; refine go0 ?_)) <;> first | exact nop | clear zF)
        refine ih2 (k + 1) _ (by omega) h2 ?_
        rw [hst]
        (have zF := an w0 a0; (refine go1 ?_) <;> first | exact nop | clear zF)
    · (have zF := an h2 (an hx (an hy w0)); (refine go0 ?_ <;> repeat (refine dr ?_; refine go0 ?_)) <;> first | exact nop | clear zF)
      refine ih2 (k + 1) _ (by omega) h2 ?_
      rw [hst]
      (have zF := w0; (refine go1 ?_) <;> first | exact nop | clear zF)
  · rw [show f.Q.take k = f.Q from List.take_of_length_le (by omega)]
    by_cases hc : inL p.N x = false ∧ askedB f.Q x = false
    · rw [if_pos hc] at hq
      subst hq
      (have zF := an h (an h2 (an hx (an hc.1 hc.2))); (refine go0 ?_ <;> repeat (refine dr ?_; refine go0 ?_)) <;> first | exact nop | clear zF)
    · rw [if_neg hc] at hq
      have hb : (!inL p.N x && !askedB f.Q x) = false := by
        cases a : inL p.N x with
        | true => rfl
        | false =>
          cases b : askedB f.Q x with
          | true => rfl
          | false => exact (hc ⟨a, b⟩).elim
      (have zF := an h (an h2 (an hx hb)); (refine go0 ?_ <;> repeat (refine dr ?_; refine go0 ?_)) <;> first | exact nop | clear zF)
      refine ih (i + 1) _ (by omega) ⟨h, hq⟩ ?_
      ((refine go1 ?_) <;> try exact nop)
end Go.Proofs.YtkkmgjhfjhcdmaaGreatDoor.Mx

namespace Go.Proofs.YtkkmgjhfjhcdmaaGreatDoor.Mx
open Go Go.RowKit Go.Proofs
theorem rF61_0 {p q : Prop} (k : q) (h : p = q := by conv => lhs; simp -dsimp (disch := first | omega | (simp only [zF, c1, LR] <;> omega) | fail) only [push_cast, zF, c1, simprocAttr, -Nat.reduceSubDiff]) : p := h.mpr k
theorem rF61_1 {p q : Prop} (k : q) (h : p = q := by conv => lhs; simp -dsimp (disch := first | omega | (simp only [zF, c1, wr_id, LR] <;> omega) | fail) only [push_cast, zF, c1, wr_id, simprocAttr, -Nat.reduceSubDiff]) : p := h.mpr k
theorem rF61_2 {p q : Prop} (k : q) (h : p = q := by conv => lhs; simp -dsimp (disch := first | omega | (simp only [zF, c1, wr_id, List.getElem?_set_self, List.set_set, LR] <;> omega) | fail) only [push_cast, zF, c1, wr_id, List.getElem?_set_self, List.set_set, simprocAttr, -Nat.reduceSubDiff]) : p := h.mpr k
theorem rF61_3 {p q : Prop} (k : q) (h : p = q := by conv => lhs; simp -dsimp (disch := first | omega | (simp only [zF, c1, wr_id, List.getElem?_set_self, List.set_set, set_peer, LR] <;> omega) | fail) only [push_cast, zF, c1, wr_id, List.getElem?_set_self, List.set_set, set_peer, simprocAttr, -Nat.reduceSubDiff]) : p := h.mpr k
theorem rF61_4 {p q : Prop} (k : q) (h : p = q := by conv => lhs; simp -dsimp (disch := first | omega | (simp only [zF, c1, wr_id, List.getElem?_set_self, List.set_set, set_peer, List.getD_eq_getElem?_getD, LR] <;> omega) | fail) only [push_cast, zF, c1, wr_id, List.getElem?_set_self, List.set_set, set_peer, List.getD_eq_getElem?_getD, simprocAttr, -Nat.reduceSubDiff]) : p := h.mpr k
theorem set_peer (Q : List Peer) (i : Nat) (a b c : Int) (u : Str) (N : List Str) : (Q.map (peerC true)).set i [.sc (.int .i64 a), .sc (.int .i64 b), .sc (.int .i64 c), .sc (.string u), .sl true 1 (N.map strR)] = (Q.set i ⟨a, b, c, u, N⟩).map (peerC true) := by
  rw [List.map_set]; rfl
theorem peer_of {f : Fetch} (hv : validF f = true) {i : Nat} {p : Peer} (hp : f.Q[i]? = some p) : peerB f.st.w f.now p = true := by
  unfold validF at hv
  simp only [Bool.and_eq_true] at hv
  exact List.all_eq_true.1 hv.2 p (List.mem_of_getElem? hp)
theorem peer_up {w now : Int} {p : Peer} (h : peerB w now p = true) : (0 ≤ p.lies ∧ p.lies ≤ 3) ∧ (0 ≤ p.wait ∧ p.wait ≤ 5) ∧ (-1 ≤ p.last ∧ p.last ≤ now) ∧ p.N.length ≤ 376 ∧ askB w p.wait p.ask = true ∧ ascF w none p.N = true := by
  unfold peerB at h
  simp only [Bool.and_eq_true, decide_eq_true_eq] at h
  obtain ⟨⟨⟨⟨⟨h1, h2⟩, h3⟩, h4⟩, h5⟩, h6⟩ := h
  exact ⟨of_decide_eq_true h1, of_decide_eq_true h2, of_decide_eq_true h3, h4, h5, h6⟩
theorem take_out {f : Fetch} {m : Message} (h : m.to ≠ 0 ∨ m.fr < 1 ∨ (f.Q.length : Int) < m.fr) : takeF f m = f ∧ takenB f m = false := by
  unfold takeF takenB; rw [if_pos h, if_pos h]; exact ⟨rfl, rfl⟩
theorem take_in {f : Fetch} {m : Message} {i : Nat} {p : Peer} (h0 : m.to = 0) (h1 : m.fr = (i : Int) + 1) (hp : f.Q[i]? = some p) :
    takeF f m = (if p.wait = 0 ∨ m.sum ≠ p.ask then f
      else if m.has = false then { f with Q := f.Q.set i (notP p m.sum) }
      else { f with
        full := if lieB f m = false ∧ (putF f.st m.tx f.now).2 = 3 then true else f.full
        st := if lieB f m = false ∧ (putF f.st m.tx f.now).2 = 0 then (putF f.st m.tx f.now).1 else f.st
        Q := f.Q.set i (lieP p (lieB f m)) }) ∧ takenB f m = (if p.wait = 0 ∨ m.sum ≠ p.ask then false else if m.has = false then false else lieB f m) := by
  have hi := (List.getElem?_eq_some_iff.1 hp).1
  have hn : ¬ (m.to ≠ 0 ∨ m.fr < 1 ∨ (f.Q.length : Int) < m.fr) := by omega
  have e : (m.fr - 1).toNat = i := by omega
  unfold takeF takenB
  rw [if_neg hn, if_neg hn, e, hp]
  exact ⟨rfl, rfl⟩
theorem put_code (s : Store) (t : Str) (now : Int) : (putF s t now).2 = 0 ∨ (putF s t now).2 = 1 ∨ (putF s t now).2 = 2 ∨ (putF s t now).2 = 3 := by
  unfold putF
  split
  · simp
  · split
    · split <;> simp
    · split <;> simp
def E103 : Env := { T := T0, kp := look [(0, [0, 1]), (1, [2, 3, 4]), (2, [2, 4]), (3, [2, 3, 4]), (4, [2, 3, 4, 6]), (5, [2, 4]), (6, [2, 3, 4, 6]), (7, [2, 3, 4, 6]), (8, [2, 3, 4, 6]), (9, [2, 3, 4, 6, 7]), (10, [2, 3, 4, 6, 7]), (11, [2, 3, 4, 6, 7]), (12, [2, 3, 4, 6, 7]), (13, [2, 4]), (14, [2, 3, 4, 6]), (15, [2, 3, 4, 6, 8]), (16, [2, 3, 4, 6, 8]), (17, [2, 3, 4, 6, 8, 10]), (18, [2, 3, 4, 6, 8]), (19, [2, 3, 4, 6, 8]), (20, [2, 4, 6, 8, 11, 12]), (21, [2, 4, 6]), (22, [2, 4, 6, 8, 11, 166]), (23, [2, 4, 6, 8, 11]), (24, [2, 4, 6, 8, 166]), (25, [2, 4, 6, 8]), (26, [2, 4, 6, 8]), (27, [2, 4, 6, 8]), (28, [2, 4, 8])], dp := look2 [(4, [[], [0], [0, 1], [0, 1, 2], [0, 1, 2, 3], [0, 1, 2, 3, 4], [0, 1, 2, 3, 4, 5], [0, 1, 2, 3, 4, 5, 6], [0, 1, 2, 3, 4, 5], [0, 1, 2, 3, 4, 5, 8], [0, 1, 2, 3, 4, 5, 8, 9], [0, 1, 2, 3, 4, 5, 8, 9, 10], [0, 1, 2, 3, 4, 5, 6, 7, 8, 9, 10, 11], [0, 1, 2, 3, 4, 5, 6, 7, 8, 9, 10, 11, 12]]), (8, [[], [0], [0, 1], [0, 1, 2], [], [4], [0, 1, 2, 3, 4, 5], [0, 1, 2, 3, 4, 5, 6]]), (9, [[], [], [1], [1, 2], [1, 2, 3], [1, 2, 3, 4], [0, 1, 2, 3, 4, 5], [0, 1, 2, 3, 4, 5, 6], [0, 1, 2, 3, 4, 5, 6, 7], [0, 1, 2, 3, 4, 5, 6, 7, 8], [0, 1, 2, 3, 4, 5, 6, 7, 8, 9], [0, 1, 2, 3, 4, 5, 6, 7, 8, 9, 10], [0, 1, 2, 3, 4, 5, 6, 7], [0, 1, 2, 3, 4, 5, 6, 7, 8, 9, 10, 11, 12], [0, 1, 2, 3, 4, 5, 6, 7, 8, 9, 10, 11, 12, 13], [0, 1, 2, 3, 4, 5, 6, 7], [0, 1, 2, 3, 4, 5, 6, 7, 15], [0, 1, 2, 3, 4, 5, 6, 7, 8, 9, 10, 11, 12, 13, 14, 15, 16], [0, 1, 2, 3, 4, 5, 6, 7, 8, 9, 10, 11, 12, 13, 14, 15, 16, 17], [0, 1, 2, 3, 4, 5, 6, 7, 8, 9, 10, 11, 12, 13, 14, 15, 16, 17, 18], [0, 1, 2, 3, 4, 5, 6, 7, 8, 9, 10, 11, 12, 13, 14, 15, 16, 17, 18, 19], [0, 1, 2, 3, 4, 5, 6, 7, 8, 9, 10, 11, 12, 13, 14, 15, 16, 17, 18, 19, 20], [0, 1, 2, 3, 4, 5, 6, 7, 8, 9, 10, 11, 12, 13, 14, 15, 16, 17, 18, 19, 20, 21], [0, 1, 2, 3, 4, 5, 6, 7, 8, 9, 10, 11, 12, 13, 14, 15, 16, 17, 18, 19, 20, 21, 22], [0, 1, 2, 3, 4, 5, 6, 7, 8, 9, 10, 11, 12, 13, 14, 15, 16, 17, 18, 19, 20, 21, 22, 23], [0, 1, 2, 3, 4, 5, 6, 7, 8, 9, 10, 11, 12, 13, 14, 15, 16, 17, 18, 19, 20, 21, 22, 23, 24], [0, 1, 2, 3, 4, 5, 6, 7, 8, 9, 10, 11, 12, 13, 14, 15, 16, 17, 18, 19, 20, 21, 22, 23, 24, 25]]), (11, [[], [0], [0, 1], [0, 1, 2], [], [4], [0, 1, 2, 3, 4, 5], [], [7], [7, 8], [7, 8, 9], [], [7, 8, 9, 10, 11], [0, 1, 2, 3, 4, 5, 6, 7, 8, 9, 10, 11, 12]]), (12, [[], [0], [0, 1], [0, 1, 2], [], [], [5], [0, 1, 2, 3, 4, 5, 6], [0, 1, 2, 3, 4, 5, 6, 7]]), (14, [[], [0], [], [2], [2, 3], [0, 1, 2, 3, 4], [], [6], [0, 1, 2, 3, 4, 5, 6, 7], [0, 1, 2, 3, 4, 5, 6, 7, 8]])] }
attribute [local push_cast] E103
set_option maxRecDepth 20000 in
set_option maxHeartbeats 4000000 in
theorem implTake (f : Fetch) (m : Message) (hf : okFetch f) (hm : okMessage m) (hv : validF f = true) : Does Tryz.prog 103 [.ag (fetchC true f), .ag (messageC false m)] (.tu [.ag (fetchC true (takeF f m)), .sc (.bool (takenB f m))], []) := by
  refine does_of (E := E103) (rs := [.cell 4 53, .tmp 5]) (lent := []) tOk rfl Tryz.func103 rfl (by decide) rfl rfl (Nat.le_of_ble_eq_true rfl) (Nat.le_of_ble_eq_true rfl) ?_
  obtain ⟨M, hM⟩ : ∃ M, M = takeF f m := ⟨_, rfl⟩
  obtain ⟨T, hT⟩ : ∃ T, T = takenB f m := ⟨_, rfl⟩
  rw [← hM, ← hT]
  have hQl := hf.2.2.1
  have hIl := hf.2.1.1.1
  have hPl := hf.2.1.2.1
  by_cases c1 : m.to = 0
  rotate_left
  · obtain ⟨e1, e2⟩ := take_out (f := f) (m := m) (.inl c1)
    rw [e1] at hM; rw [e2] at hT
    subst hM hT
    ((refine rF61_0 ?_ <;> repeat (refine dr ?_; refine rF61_0 ?_)) <;> try exact nop)
  by_cases c2 : m.fr < 1
  · obtain ⟨e1, e2⟩ := take_out (f := f) (m := m) (.inr (.inl c2))
    rw [e1] at hM; rw [e2] at hT
    subst hM hT
    ((refine rF61_0 ?_ <;> repeat (refine dr ?_; refine rF61_0 ?_)) <;> try exact nop)
  by_cases c3 : (f.Q.length : Int) < m.fr
  · obtain ⟨e1, e2⟩ := take_out (f := f) (m := m) (.inr (.inr c3))
    rw [e1] at hM; rw [e2] at hT
    subst hM hT
    ((refine rF61_0 ?_ <;> repeat (refine dr ?_; refine rF61_0 ?_)) <;> try exact nop)
  obtain ⟨i, hi⟩ : ∃ i : Nat, m.fr = (i : Int) + 1 := ⟨(m.fr - 1).toNat, by omega⟩
  obtain ⟨p, hp⟩ := ex_get (show i < f.Q.length by omega)
  obtain ⟨e1, e2⟩ := take_in c1 hi hp
  rw [e1] at hM
  rw [e2] at hT
  clear e1 e2
  have ei : ((i : Int) + 1 - 1).toNat = i := by omega
  have ei2 : (i : Int) + 1 - 1 = i := by omega
  have hil : i < f.Q.length := by omega
  obtain ⟨q1, q2, q3, q4, q5, q6⟩ := peer_up (peer_of hv hp)
  by_cases c4 : p.wait = 0
  · rw [if_pos (.inl c4)] at hM hT
    subst hM hT
    (have zF := an hi (an hp (an c4 (an ei2 ei))); (refine rF61_1 ?_ <;> repeat (refine dr ?_; refine rF61_1 ?_)) <;> first | exact nop | clear zF)
  by_cases c5 : m.sum = p.ask
  rotate_left
  · rw [if_pos (.inr c5)] at hM hT
    subst hM hT
    (have zF := an hi (an hp (an c4 (an c5 (an ei2 ei)))); (refine rF61_1 ?_ <;> repeat (refine dr ?_; refine rF61_1 ?_)) <;> first | exact nop | clear zF)
  rw [if_neg (by rintro (q | q); exact c4 q; exact q c5)] at hM hT
  cases c6 : m.has with
  | false =>
    rw [if_pos c6] at hM hT
    subst hT
    have hpar := asc_parts q6 m.sum
    have hrk := rk_le p.N m.sum
    (have zF := an hi (an hp (an c4 (an c5 (an c6 (an ei2 ei))))); (refine rF61_2 ?_ <;> repeat (refine dr ?_; refine rF61_2 ?_)) <;> first | exact nop | clear zF)
    refine callC (searchStrings p.N p.ask (by omega) (c5 ▸ hpar)) ?_
    rw [c5] at hM hrk
    obtain ⟨r, hr⟩ : ∃ r, r = rk p.N p.ask := ⟨_, rfl⟩
    rw [← hr] at hrk ⊢
    have has : hasS p.N p.ask = decide (p.N[r]? = some p.ask) := by unfold hasS; rw [hr]
    have noh : hasS p.N p.ask = false → addS p.N p.ask = p.N.take r ++ p.ask :: p.N.drop r := fun e => by unfold addS; rw [e, hr]; rfl
    by_cases hh : hasS p.N p.ask = true
    · have hg : p.N[r]? = some p.ask := of_decide_eq_true (has ▸ hh)
      have hrl := (List.getElem?_eq_some_iff.1 hg).1
      have hM : M = { f with Q := f.Q.set i ⟨p.lies, 0, p.last, ⟨#[]⟩, p.N⟩ } := by
        rw [hM]; unfold notP
        have : addS p.N p.ask = p.N := by unfold addS; rw [hh]; rfl
        rw [this, if_pos q4]; rfl
      subst hM
      (have zF := an hi (an hp (an c4 (an c5 (an c6 (an ei2 (an ei hg)))))); (refine rF61_3 ?_ <;> repeat (refine dr ?_; refine rF61_3 ?_)) <;> first | exact nop | clear zF)
    have hh : hasS p.N p.ask = false := by simpa using hh
    have hadd := noh hh
    have hal : (addS p.N p.ask).length = p.N.length + 1 := by rw [hadd, List.length_append, List.length_take, List.length_cons, List.length_drop]; omega
    have e1 : ((r : Int) + 1).toNat = r + 1 := by omega
    have e2 : ((p.N.length : Int) + 1 - ((r : Int) + 1)).toNat = p.N.length - r := by omega
    have e3 : ((p.N.length : Int) + 1 - (r : Int)).toNat = p.N.length + 1 - r := by omega
    obtain ⟨x, hx⟩ := ins_rows p.N ⟨#[]⟩ r hrk
    have hgx := mid_get (a := p.N.take r) (b := p.N.drop r) (x := x) (i := r) (by simp; omega)
    have hset := congrArg (List.map strR) (mid_set (a := p.N.take r) (b := p.N.drop r) (x := x) (y := p.ask) (i := r) (by simp; omega))
    rw [List.map_set, ← hadd] at hset
    replace hset : ((p.N.take r ++ x :: p.N.drop r).map strR).set r [.sc (.string p.ask)] = (addS p.N p.ask).map strR := hset
    have hfl : flatR (seg (p.N.map strR ++ [[.sc (.string ⟨#[]⟩)]]) r (p.N.length + 1 - r)) = true := flatR_seg (by rw [flatR_app, flat_String]; rfl) _ _
    have hlen : (p.N.map strR ++ [[AV.sc (.string ⟨#[]⟩)]]).length = p.N.length + 1 := by rw [List.length_append, List.length_map]; rfl
    have hlen2 : (p.N.take r ++ x :: p.N.drop r).length = p.N.length + 1 := by rw [List.length_append, List.length_take, List.length_cons, List.length_drop]; omega
    by_cases hfull : p.N.length ≤ 375
    · have hM : M = { f with Q := f.Q.set i ⟨p.lies, 0, p.last, ⟨#[]⟩, addS p.N p.ask⟩ } := by
        rw [hM]; unfold notP
        rw [if_pos (by omega)]; rfl
      subst hM
      by_cases hrl : r = p.N.length
      · subst hrl
        (have zF := an hi (an hp (an c4 (an c5 (an c6 (an ei2 (an ei (an e1 (an e2 (an e3 (an hlen (an hlen2 (an hx (an hgx (an hfl hset)))))))))))))); (refine rF61_4 ?_ <;> repeat (refine dr ?_; refine rF61_4 ?_)) <;> first | exact nop | clear zF)
      · obtain ⟨y, hy⟩ := ex_get (show r < p.N.length by omega)
        have hne : ¬ y = p.ask := fun e => by rw [has, hy, e] at hh; simp at hh
        (have zF := an hi (an hp (an c4 (an c5 (an c6 (an ei2 (an ei (an hrl (an hy (an hne (an e1 (an e2 (an e3 (an hlen (an hlen2 (an hx (an hgx (an hfl hset))))))))))))))))); (refine rF61_4 ?_ <;> repeat (refine dr ?_; refine rF61_4 ?_)) <;> first | exact nop | clear zF)
    · have hM : M = { f with Q := f.Q.set i ⟨p.lies, 0, p.last, ⟨#[]⟩, p.N⟩ } := by
        rw [hM]; unfold notP
        rw [if_neg (by omega)]; rfl
      subst hM
      by_cases hrl : r = p.N.length
      · subst hrl
        (have zF := an hi (an hp (an c4 (an c5 (an c6 (an ei2 ei))))); (refine rF61_4 ?_ <;> repeat (refine dr ?_; refine rF61_4 ?_)) <;> first | exact nop | clear zF)
      · obtain ⟨y, hy⟩ := ex_get (show r < p.N.length by omega)
        have hne : ¬ y = p.ask := fun e => by rw [has, hy, e] at hh; simp at hh
        (have zF := an hi (an hp (an c4 (an c5 (an c6 (an ei2 (an ei (an hrl (an hy hne)))))))); (refine rF61_4 ?_ <;> repeat (refine dr ?_; refine rF61_4 ?_)) <;> first | exact nop | clear zF)
  | true =>
    rw [if_neg (by rw [c6]; simp)] at hM hT
    have hbt := hm.2
    have hbt : m.tx.size ≤ 2097152 := hbt
    unfold lieB at hM hT
    rw [c5] at hM hT
    (have zF := an hi (an hp (an c4 (an c5 (an c6 (an ei2 ei))))); (refine rF61_3 ?_ <;> repeat (refine dr ?_; refine rF61_3 ?_)) <;> first | exact nop | clear zF)
    refine callC (implSum m.tx f.st.w (by omega)) ?_
    have hrd := implReadList m.tx f.st.w (by omega)
    have hput := implPut f.st m.tx f.now hf.2.1 (by omega)
    have hcode := put_code f.st m.tx f.now
    generalize readL m.tx f.st.w = R at *
    generalize putF f.st m.tx f.now = A at *
    obtain ⟨l, rb⟩ := R
    obtain ⟨o, k⟩ := A
    simp only at hM hT hrd hput hcode
    obtain ⟨L, hL⟩ : ∃ L, L = (!decide (sumS m.tx f.st.w = p.ask) || (decide (p.ask = f.nm) && !rb) || decide (k = 1) || decide (k = 2)) := ⟨_, rfl⟩
    rw [← hL] at hM hT
    rw [hT]
    clear hT
    have hMt : L = true → M = { f with Q := f.Q.set i ⟨if 3 < p.lies + 1 then 3 else p.lies + 1, 0, p.last, ⟨#[]⟩, p.N⟩ } := fun e => by
      rw [hM, e]; simp [lieP]; rfl
    have hMf : L = false → M = { f with full := if k = 3 then true else f.full, st := if k = 0 then o else f.st, Q := f.Q.set i ⟨p.lies, 0, p.last, ⟨#[]⟩, p.N⟩ } := fun e => by
      rw [hM, e]; simp [lieP]; rfl
    clear hM
    by_cases s1 : sumS m.tx f.st.w = p.ask
    rotate_left
    · have hL : L = true := by rw [hL]; simp [s1]
      have hM := hMt hL
      subst hM hL
      by_cases s2 : p.ask = f.nm
      · have s1' : ¬ sumS m.tx f.st.w = f.nm := s2 ▸ s1
        (have zF := an hi (an hp (an c4 (an c5 (an c6 (an s1' (an s2 (an ei2 ei))))))); (refine rF61_3 ?_ <;> repeat (refine dr ?_; refine rF61_3 ?_)) <;> first | exact nop | clear zF)
        refine callC hrd ?_
        (have zF := an hi (an hp (an c4 (an c5 (an c6 (an s1' (an s2 (an ei2 ei))))))); (refine rF61_3 ?_ <;> repeat (refine dr ?_; refine rF61_3 ?_)) <;> first | exact nop | clear zF)
      · (have zF := an hi (an hp (an c4 (an c5 (an c6 (an s1 (an s2 (an ei2 ei))))))); (refine rF61_3 ?_ <;> repeat (refine dr ?_; refine rF61_3 ?_)) <;> first | exact nop | clear zF)
    have fin : ∀ s2 : p.ask = f.nm → rb = true, L = (decide (k = 1) || decide (k = 2)) := fun s2 => by
      rw [hL]
      by_cases q : p.ask = f.nm
      · simp [s1, s2 q]
      · simp [s1, q]
    by_cases s2 : p.ask = f.nm
    · have s1' : sumS m.tx f.st.w = f.nm := s2 ▸ s1
      (have zF := an hi (an hp (an c4 (an c5 (an c6 (an s1' (an s2 (an ei2 ei))))))); (refine rF61_3 ?_ <;> repeat (refine dr ?_; refine rF61_3 ?_)) <;> first | exact nop | clear zF)
      refine callC hrd ?_
      cases rb with
      | false =>
        have hL : L = true := by rw [hL]; simp [s1, s2]
        have hM := hMt hL
        subst hM hL
        (have zF := an hi (an hp (an c4 (an c5 (an c6 (an s1' (an s2 (an ei2 ei))))))); (refine rF61_3 ?_ <;> repeat (refine dr ?_; refine rF61_3 ?_)) <;> first | exact nop | clear zF)
      | true =>
        have hLk := fin (fun _ => rfl)
        clear fin hL
        (have zF := an hi (an hp (an c4 (an c5 (an c6 (an s1' (an s2 (an ei2 ei))))))); (refine rF61_3 ?_ <;> repeat (refine dr ?_; refine rF61_3 ?_)) <;> first | exact nop | clear zF)
        refine callC hput ?_
        rcases hcode with e | e | e | e
        all_goals
          subst e
          simp at hLk
          subst hLk
        · have hM := hMf rfl
          simp only [reduceIte, Int.reduceEq] at hM
          subst hM
          (have zF := an hi (an hp (an c4 (an c5 (an c6 (an s1' (an s2 (an ei2 ei))))))); (refine rF61_3 ?_ <;> repeat (refine dr ?_; refine rF61_3 ?_)) <;> first | exact nop | clear zF)
        · have hM := hMt rfl
          subst hM
          (have zF := an hi (an hp (an c4 (an c5 (an c6 (an s1' (an s2 (an ei2 ei))))))); (refine rF61_3 ?_ <;> repeat (refine dr ?_; refine rF61_3 ?_)) <;> first | exact nop | clear zF)
        · have hM := hMt rfl
          subst hM
          (have zF := an hi (an hp (an c4 (an c5 (an c6 (an s1' (an s2 (an ei2 ei))))))); (refine rF61_3 ?_ <;> repeat (refine dr ?_; refine rF61_3 ?_)) <;> first | exact nop | clear zF)
        · have hM := hMf rfl
          simp only [reduceIte, Int.reduceEq] at hM
          subst hM
          (have zF := an hi (an hp (an c4 (an c5 (an c6 (an s1' (an s2 (an ei2 ei))))))); (refine rF61_3 ?_ <;> repeat (refine dr ?_; refine rF61_3 ?_)) <;> first | exact nop | clear zF)
    · have hLk := fin (fun q => (s2 q).elim)
      clear fin hL
      (have zF := an hi (an hp (an c4 (an c5 (an c6 (an s1 (an s2 (an ei2 ei))))))); (refine rF61_3 ?_ <;> repeat (refine dr ?_; refine rF61_3 ?_)) <;> first | exact nop | clear zF)
      refine callC hput ?_
      rcases hcode with e | e | e | e
      all_goals
        subst e
        simp at hLk
        subst hLk
      · have hM := hMf rfl
        simp only [reduceIte, Int.reduceEq] at hM
        subst hM
        (have zF := an hi (an hp (an c4 (an c5 (an c6 (an s1 (an s2 (an ei2 ei))))))); (refine rF61_3 ?_ <;> repeat (refine dr ?_; refine rF61_3 ?_)) <;> first | exact nop | clear zF)
      · have hM := hMt rfl
        subst hM
        (have zF := an hi (an hp (an c4 (an c5 (an c6 (an s1 (an s2 (an ei2 ei))))))); (refine rF61_3 ?_ <;> repeat (refine dr ?_; refine rF61_3 ?_)) <;> first | exact nop | clear zF)
      · have hM := hMt rfl
        subst hM
        (have zF := an hi (an hp (an c4 (an c5 (an c6 (an s1 (an s2 (an ei2 ei))))))); (refine rF61_3 ?_ <;> repeat (refine dr ?_; refine rF61_3 ?_)) <;> first | exact nop | clear zF)
      · have hM := hMf rfl
        simp only [reduceIte, Int.reduceEq] at hM
        subst hM
        (have zF := an hi (an hp (an c4 (an c5 (an c6 (an s1 (an s2 (an ei2 ei))))))); (refine rF61_3 ?_ <;> repeat (refine dr ?_; refine rF61_3 ?_)) <;> first | exact nop | clear zF)
end Go.Proofs.YtkkmgjhfjhcdmaaGreatDoor.Mx

namespace Go.Proofs.YtkkmgjhfjhcdmaaGreatDoor.Mx
open Go Go.RowKit Go.Proofs
theorem rF65_0 {p q : Prop} (k : q) (h : p = q := by conv => lhs; simp -dsimp (disch := first | omega | (simp only [zF, c1, LR] <;> omega) | fail) only [push_cast, zF, c1, simprocAttr, -Nat.reduceSubDiff]) : p := h.mpr k
theorem rF65_1 {p q : Prop} (k : q) (h : p = q := by conv => lhs; simp -dsimp (disch := first | omega | (simp only [zF, wr_id, List.getElem?_set_self, List.set_set, set_peer, LR] <;> omega) | fail) only [push_cast, zF, wr_id, List.getElem?_set_self, List.set_set, set_peer, simprocAttr, -Nat.reduceSubDiff]) : p := h.mpr k
theorem rF65_2 {p q : Prop} (k : q) (h : p = q := by conv => lhs; simp -dsimp (disch := first | omega | (simp only [zF, rep_bool, LR] <;> omega) | fail) only [push_cast, zF, rep_bool, simprocAttr, -Nat.reduceSubDiff]) : p := h.mpr k
theorem rF65_3 {p q : Prop} (k : q) (h : p = q := by conv => lhs; simp -dsimp (disch := first | omega | (simp only [zF, List.getElem?_set_self, List.set_set, set_peer, LR] <;> omega) | fail) only [push_cast, zF, List.getElem?_set_self, List.set_set, set_peer, simprocAttr, -Nat.reduceSubDiff]) : p := h.mpr k
theorem rF65_4 {p q : Prop} (k : q) (h : p = q := by conv => lhs; simp -dsimp (disch := first | omega | (simp only [zF, wr_id, decT_zero, LR] <;> omega) | fail) only [push_cast, zF, wr_id, decT_zero, simprocAttr, -Nat.reduceSubDiff]) : p := h.mpr k
theorem rF65_5 {p q : Prop} (k : q) (h : p = q := by conv => lhs; simp -dsimp (disch := first | omega | (simp only [zF, List.length_replicate, LR] <;> omega) | fail) only [push_cast, zF, List.length_replicate, simprocAttr, -Nat.reduceSubDiff]) : p := h.mpr k
theorem rF65_6 {p q : Prop} (k : q) (h : p = q := by conv => lhs; simp -dsimp (disch := first | omega | (simp only [zF, wr_id, List.length_set, LR] <;> omega) | fail) only [push_cast, zF, wr_id, List.length_set, simprocAttr, -Nat.reduceSubDiff]) : p := h.mpr k
theorem rF65_7 {p q : Prop} (k : q) (h : p = q := by conv => lhs; simp -dsimp (disch := first | omega | (simp only [zF, wr_id, List.length_set, List.length_append, List.map_append, List.length_singleton, List.map_cons, List.map_nil, LR] <;> omega) | fail) only [push_cast, zF, wr_id, List.length_set, List.length_append, List.map_append, List.length_singleton, List.map_cons, List.map_nil, simprocAttr, -Nat.reduceSubDiff]) : p := h.mpr k
theorem rep_bool (n : Nat) : List.replicate n [AV.sc (.bool false)] = (List.replicate n false).map boolR := by rw [List.map_replicate]; rfl
def E31 : Env := { T := T0, kp := look [(0, [0]), (1, [1, 2]), (2, [1, 2, 4]), (3, [2, 4]), (4, [1, 2, 4]), (5, [1, 2, 4, 5]), (6, [2, 4, 5]), (7, [2, 4, 5]), (8, [2, 4, 5]), (9, [2, 4, 5, 6]), (10, [2, 4, 5, 6]), (11, [2, 4, 5, 6]), (12, [2, 4, 5, 6]), (13, [2, 4, 5, 6]), (14, [2, 4, 5, 6]), (15, [2, 4, 5]), (16, [2, 4, 5]), (17, [2, 4, 5]), (18, [2, 4, 5, 7]), (19, [2, 4, 5, 7, 8]), (20, [2, 4, 5, 7, 8, 9]), (21, [2, 4, 5, 7, 8]), (22, [2, 4, 5, 7, 8, 9]), (23, [2, 4, 5, 7, 8, 9]), (24, [2, 4, 5, 7, 8, 9, 10]), (25, [2, 4, 5, 7, 8, 9, 10]), (26, [2, 4, 5, 7, 8, 9, 10]), (27, [2, 4, 5, 7, 8, 9, 10]), (28, [2, 4, 5, 7, 8, 9, 10]), (29, [2, 4, 5])], dp := look2 [(12, [[], [0], [], [], [3], [], [3, 4, 5], [3, 4, 5, 6], [3, 4, 5, 6, 7], [3, 4, 5, 6, 7, 8], [0, 1, 2, 3, 4, 5, 6, 7, 8, 9], [0, 1, 2, 3, 4, 5, 6, 7, 8, 9, 10], [0, 1, 2, 3, 4, 5, 6, 7, 8, 9, 10, 11]])] }
attribute [local push_cast] E31
set_option maxRecDepth 20000 in
set_option maxHeartbeats 4000000 in
theorem specFetchTick (f : Fetch) (hf : okFetch f) : Does Tryz.prog 31 [.ag (fetchC false f)] (.tu [.ag (fetchC true (ftickF f).1), .sl true 5 ((ftickF f).2.map (messageC true))], []) := by
  obtain ⟨M, hM⟩ : ∃ M, M = (ftickF f).1 := ⟨_, rfl⟩
  obtain ⟨O, hO⟩ : ∃ O, O = (ftickF f).2 := ⟨_, rfl⟩
  rw [← hM, ← hO]
  have hQl := hf.2.2.1
  have hIl := hf.2.1.1.1
  have hPl := hf.2.1.2.1
  unfold ftickF at hM hO
  cases hv : validF f with
  | false =>
    rw [if_neg (by rw [hv]; simp)] at hM hO
    subst hM hO
    refine does_of (E := E31) (rs := [.cell 2 53, .tmp 3]) (lent := []) tOk rfl Tryz.func31 rfl (by decide) rfl rfl (Nat.le_of_ble_eq_true rfl) (Nat.le_of_ble_eq_true rfl) ?_
    ((refine go0 ?_ <;> repeat (refine dr ?_; refine go0 ?_)) <;> try exact nop)
    refine callC (specValidFetch f hf) ?_
    rw [hv]
    ((refine go0 ?_ <;> repeat (refine dr ?_; refine go0 ?_)) <;> try exact nop)
    rfl
  | true =>
  rw [if_pos hv] at hM hO
  have hvd := specValidFetch f hf
  rw [hv] at hvd
  unfold tickF at hM hO
  by_cases c1 : 1000000 ≤ f.now
  · rw [if_pos c1] at hM hO
    replace hM := hM.symm
    subst hM hO
    refine does_of (E := E31) (rs := [.cell 2 53, .tmp 3]) (lent := []) tOk rfl Tryz.func31 rfl (by decide) rfl rfl (Nat.le_of_ble_eq_true rfl) (Nat.le_of_ble_eq_true rfl) ?_
    ((refine go0 ?_ <;> repeat (refine dr ?_; refine go0 ?_)) <;> try exact nop)
    refine callC hvd ?_
    ((refine go0 ?_ <;> repeat (refine dr ?_; refine go0 ?_)) <;> try exact nop)
    refine callC (l7Copy f hf) ?_
    ((refine rF65_0 ?_ <;> repeat (refine dr ?_; refine rF65_0 ?_)) <;> try exact nop)
  rw [if_neg c1] at hM hO
  have hnow := now_of hv
  refine does_of (E := E31) (rs := [.cell 2 53, .tmp 3]) (lent := []) tOk rfl Tryz.func31 rfl (by decide) rfl rfl (Nat.le_of_ble_eq_true rfl) (Nat.le_of_ble_eq_true rfl) ?_
  ((refine go0 ?_ <;> repeat (refine dr ?_; refine go0 ?_)) <;> try exact nop)
  refine callC hvd ?_
  ((refine go0 ?_ <;> repeat (refine dr ?_; refine go0 ?_)) <;> try exact nop)
  refine callC (l7Copy f hf) ?_
  ((refine rF65_0 ?_ <;> repeat (refine dr ?_; refine rF65_0 ?_)) <;> try exact nop)
  refine loop_ind (α := Nat) (fun i => i ≤ f.Q.length)
    (fun i => ⟨[(2, .pt 1 0 0), (4, .ow 5 0 0), (5, .pt 6 0 0), (6, .sc (.int .i64 i))],
      [(1, .bx [.sc (.string ⟨#[]⟩), .sc (.int .i64 0), .sc (.bool false), .sc (.int .i64 0), .sc (.int .i64 0), .ow 2 0 0, .ow 3 0 0, .ow 4 0 0]), (2, .ar 2 0 []), (3, .ar 1 0 []), (4, .ar 5 0 []), (5, .ar 5 0 []),
       (6, .bx [.sc (.string f.nm), .sc (.int .i64 (f.now + 1)), .sc (.bool f.full), .sc (.int .i64 f.st.w), .sc (.int .i64 f.st.r), .ow 7 0 f.st.I.length, .ow 8 0 f.st.P.length, .ow 9 0 f.Q.length]), (7, .ar 2 0 (f.st.I.map (itemC true))), (8, .ar 1 0 (f.st.P.map strR)), (9, .ar 5 0 ((decT f.Q i).map (peerC true)))], 10⟩) (fun i => f.Q.length - i) 0 (Nat.zero_le _) ?_ ?_
  · ((refine rF65_4 ?_) <;> try exact nop)
  intro i hi ih
  by_cases h : i < f.Q.length
  · obtain ⟨p, hp⟩ := ex_get h
    have hD := decT_get hp
    have hl := decT_len f.Q i
    obtain ⟨q1, q2, q3, q4, q5, q6⟩ := peer_up (peer_of hv hp)
    have hN := decT_step hp
    have hS := decT_same hp
    have hl2 := decT_len f.Q (i + 1)
    generalize decT f.Q i = D at *
    by_cases w0 : 0 < p.wait
    rotate_left
    · replace hS := hS (by unfold decP; rw [if_neg w0])
      rw [← hS] at hl2
      (have zF := an h (an hD w0); (refine go0 ?_ <;> repeat (refine dr ?_; refine go0 ?_)) <;> first | exact nop | clear zF)
      refine ih (i + 1) _ (by omega) h ?_
      rw [← hS]
      ((refine go1 ?_) <;> try exact nop)
    clear hS
    by_cases w1 : p.wait - 1 = 0
    · have e : decP p = ⟨p.lies, 0, p.last, ⟨#[]⟩, p.N⟩ := by unfold decP; rw [if_pos w0, if_pos w1, w1]
      rw [e] at hN
      (have zF := an h (an hD (an w0 w1)); (refine rF65_1 ?_ <;> repeat (refine dr ?_; refine rF65_1 ?_)) <;> first | exact nop | clear zF)
      refine ih (i + 1) _ (by omega) h ?_
      rw [← hN]
      ((refine go1 ?_) <;> try exact nop)
    · have e : decP p = ⟨p.lies, p.wait - 1, p.last, p.ask, p.N⟩ := by unfold decP; rw [if_pos w0, if_neg w1]
      rw [e] at hN
      (have zF := an h (an hD (an w0 w1)); (refine rF65_1 ?_ <;> repeat (refine dr ?_; refine rF65_1 ?_)) <;> first | exact nop | clear zF)
      refine ih (i + 1) _ (by omega) h ?_
      rw [← hN]
      ((refine go1 ?_) <;> try exact nop)
  · have hi : i = f.Q.length := by omega
    subst hi
    rw [decT_all]
    have hl : (f.Q.map decP).length = f.Q.length := List.length_map ..
    cases c2 : f.full with
    | true =>
      rw [if_pos c2] at hM hO
      subst hM hO
      (have zF := an h c2; (refine go0 ?_ <;> repeat (refine dr ?_; refine go0 ?_)) <;> first | exact nop | clear zF)
    | false =>
      rw [if_neg (by rw [c2]; simp)] at hM hO
      (have zF := an h c2; (refine go0 ?_ <;> repeat (refine dr ?_; refine go0 ?_)) <;> first | exact nop | clear zF)
      refine callC (specLacks f.st f.nm hf.2.1) ?_
      (have zF := an h c2; (refine rF65_2 ?_ <;> repeat (refine dr ?_; refine rF65_2 ?_)) <;> first | exact nop | clear zF)
      have hLk := lacksOk f.st f.nm hf.1
      obtain ⟨L, hL⟩ : ∃ L, L = lacksF f.st f.nm := ⟨_, rfl⟩
      rw [← hL] at hM hO hLk ⊢
      obtain ⟨R, hR⟩ : ∃ R, R = runT (f.now + 1) L (List.replicate f.Q.length false) (f.Q.map decP, []) := ⟨_, rfl⟩
      rw [← hR] at hM hO
      have hLl := hLk.1
      refine callC (l7Next { f with now := f.now + 1, full := false, Q := f.Q.map decP } (List.replicate f.Q.length false) ⟨hf.1, hf.2.1, decQ_ok hf.2.2⟩ (by simp)) ?_
      (have zF := an h c2; (refine rF65_2 ?_ <;> repeat (refine dr ?_; refine rF65_2 ?_)) <;> first | exact nop | clear zF)
      refine loop_ind (α := List Bool × List Peer × List Message)
        (fun q => q.1.length = f.Q.length ∧ q.2.1.length = f.Q.length ∧ okL okPeer q.2.1 ∧ q.2.2.length + cntF q.1 ≤ 5 ∧ runT (f.now + 1) L q.1 q.2 = R)
        (fun q => ⟨[(2, .pt 1 0 0), (4, .ow 5 0 q.2.2.length), (5, .pt 6 0 0), (7, .ow 10 0 L.length), (8, .ow 11 0 q.1.length), (9, .sc (.int .i64 (nextF q.2.1 q.1 q.2.1.length)))],
          [(1, .bx [.sc (.string ⟨#[]⟩), .sc (.int .i64 0), .sc (.bool false), .sc (.int .i64 0), .sc (.int .i64 0), .ow 2 0 0, .ow 3 0 0, .ow 4 0 0]), (2, .ar 2 0 []), (3, .ar 1 0 []), (4, .ar 5 0 []), (5, .ar 5 0 (q.2.2.map (messageC true))),
           (6, .bx [.sc (.string f.nm), .sc (.int .i64 (f.now + 1)), .sc (.bool false), .sc (.int .i64 f.st.w), .sc (.int .i64 f.st.r), .ow 7 0 f.st.I.length, .ow 8 0 f.st.P.length, .ow 9 0 q.2.1.length]), (7, .ar 2 0 (f.st.I.map (itemC true))), (8, .ar 1 0 (f.st.P.map strR)), (9, .ar 5 0 (q.2.1.map (peerC true))),
           (10, .ar 1 0 (L.map strR)), (11, .ar 1 0 (q.1.map boolR))], 12⟩) (fun q => cntF q.1) (List.replicate f.Q.length false, f.Q.map decP, []) ⟨by simp, by simp, decQ_ok hf.2.2, by rw [cnt_new]; simp; omega, hR.symm⟩ ?_ ?_
      · ((refine rF65_5 ?_) <;> try exact nop)
      rintro ⟨S, Q, W⟩ ⟨h1, h2, h3, h4, h5⟩ ih
      simp only at h1 h2 h3 h4 h5
      have hr := next_rng Q S Q.length
      obtain ⟨b, hb⟩ : ∃ b, b = nextF Q S Q.length := ⟨_, rfl⟩
      by_cases h0 : nextF Q S Q.length < 0
      · rw [runT_end h0] at h5
        subst h5
        subst hM hO
        rw [← hb] at h0 ⊢
        (have zF := an h0 c2; (refine go0 ?_ <;> repeat (refine dr ?_; refine go0 ?_)) <;> first | exact nop | clear zF)
      obtain ⟨k, hk⟩ : ∃ k : Nat, nextF Q S Q.length = k := ⟨(nextF Q S Q.length).toNat, by omega⟩
      obtain ⟨p, hp, hs, _⟩ := next_free Q S Q.length k hk
      have hc := cnt_set hs
      rw [runT_go hk] at h5
      have ho := ask1_ok (now := f.now + 1) (L := L) (q := (Q, W)) (i := k) h3 hLk.2
      have hkl := (List.getElem?_eq_some_iff.1 hp).1
      dsimp only
      rw [hk]
      (have zF := an hp (an hs hkl); (refine go0 ?_ <;> repeat (refine dr ?_; refine go0 ?_)) <;> first | exact nop | clear zF)
      refine callC (l7Choice { f with now := f.now + 1, full := false, Q := Q } L k p ⟨hf.1, hf.2.1, h3⟩ hLl hp) ?_
      have hst : ask1 (f.now + 1) L (Q, W) k = if pickL Q p L = (⟨#[]⟩ : Str) then (Q, W) else (Q.set k ⟨p.lies, 5, f.now + 1, pickL Q p L, p.N⟩, W ++ [⟨0, k + 1, pickL Q p L, false, ⟨#[]⟩⟩]) := by
        show (match Q[k]? with | none => _ | some p => _) = _
        rw [hp]
      have hkS : k < S.length := by omega
      have hset : (S.map boolR).set k [AV.sc (.bool true)] = (S.set k true).map boolR := by rw [List.map_set]; rfl
      have hSl : (S.set k true).length = f.Q.length := by rw [List.length_set]; exact h1
      generalize pickL Q p L = u at *
      by_cases hu : u = (⟨#[]⟩ : Str)
      · rw [if_pos hu] at hst
        rw [hst] at h5 ho
        (have zF := an hp (an hs (an hkl (an hu hset))); (refine go0 ?_ <;> repeat (refine dr ?_; refine go0 ?_)) <;> first | exact nop | clear zF)
        refine callC (l7Next { f with now := f.now + 1, full := false, Q := Q } (S.set k true) ⟨hf.1, hf.2.1, h3⟩ (by rw [hSl]; exact h2.symm)) ?_
        (have zF := an hp (an hs (an hkl (an hu hset))); (refine go0 ?_ <;> repeat (refine dr ?_; refine go0 ?_)) <;> first | exact nop | clear zF)
        refine ih (S.set k true, Q, W) _ (by show cntF (S.set k true) < cntF S; omega) ⟨hSl, h2, h3, by show W.length + cntF (S.set k true) ≤ 5; omega, h5⟩ ?_
        ((refine rF65_6 ?_) <;> try exact nop)
      · rw [if_neg hu] at hst
        rw [hst] at h5 ho
        (have zF := an hp (an hs (an hkl (an hu hset))); (refine rF65_3 ?_ <;> repeat (refine dr ?_; refine rF65_3 ?_)) <;> first | exact nop | clear zF)
        refine callC (l7Next { f with now := f.now + 1, full := false, Q := Q.set k ⟨p.lies, 5, f.now + 1, u, p.N⟩ } (S.set k true) ⟨hf.1, hf.2.1, ho⟩ (by rw [hSl]; show f.Q.length = (Q.set _ _).length; rw [List.length_set]; exact h2.symm)) ?_
        (have zF := an hp (an hs (an hkl (an hu hset))); (refine go0 ?_ <;> repeat (refine dr ?_; refine go0 ?_)) <;> first | exact nop | clear zF)
        refine ih (S.set k true, Q.set k ⟨p.lies, 5, f.now + 1, u, p.N⟩, W ++ [⟨0, k + 1, u, false, ⟨#[]⟩⟩]) _ (by show cntF (S.set k true) < cntF S; omega) ⟨hSl, by show (Q.set _ _).length = _; rw [List.length_set]; exact h2, ho, by show (W ++ _).length + cntF (S.set k true) ≤ 5; rw [List.length_append, List.length_singleton]; omega, h5⟩ ?_
        ((refine rF65_7 ?_) <;> try exact nop)
end Go.Proofs.YtkkmgjhfjhcdmaaGreatDoor.Mx

namespace Go.Proofs.YtkkmgjhfjhcdmaaGreatDoor.Mx
open Go Go.RowKit Go.Proofs
theorem rF62_0 {p q : Prop} (k : q) (h : p = q := by conv => lhs; simp -dsimp (disch := first | omega | (simp only [zF, seg_tk, seg_dr, LR] <;> omega) | fail) only [push_cast, zF, seg_tk, seg_dr, simprocAttr, -Nat.reduceSubDiff]) : p := h.mpr k
theorem rF62_1 {p q : Prop} (k : q) (h : p = q := by conv => lhs; simp -dsimp (disch := first | omega | (simp only [zF, c1, LR] <;> omega) | fail) only [push_cast, zF, c1, simprocAttr, -Nat.reduceSubDiff]) : p := h.mpr k
theorem rF62_2 {p q : Prop} (k : q) (h : p = q := by conv => lhs; simp -dsimp (disch := first | omega | (simp only [zF, c1, wr_id, LR] <;> omega) | fail) only [push_cast, zF, c1, wr_id, simprocAttr, -Nat.reduceSubDiff]) : p := h.mpr k
theorem rF62_3 {p q : Prop} (k : q) (h : p = q := by conv => lhs; simp -dsimp (disch := first | omega | (simp only [zF, c1, wr_id, List.getD_eq_getElem?_getD, LR] <;> omega) | fail) only [push_cast, zF, c1, wr_id, List.getD_eq_getElem?_getD, simprocAttr, -Nat.reduceSubDiff]) : p := h.mpr k
theorem rF62_4 {p q : Prop} (k : q) (h : p = q := by conv => lhs; simp -dsimp (disch := first | omega | (simp only [zF, c1, wr_id, List.getElem?_set_self, List.set_set, set_peer, List.getD_eq_getElem?_getD, LR] <;> omega) | fail) only [push_cast, zF, c1, wr_id, List.getElem?_set_self, List.set_set, set_peer, List.getD_eq_getElem?_getD, simprocAttr, -Nat.reduceSubDiff]) : p := h.mpr k
theorem rF62_5 {p q : Prop} (k : q) (h : p = q := by conv => lhs; simp -dsimp (disch := first | omega | (simp only [zF, c1, wr_id, List.getElem?_set_self, List.set_set, set_peer, LR] <;> omega) | fail) only [push_cast, zF, c1, wr_id, List.getElem?_set_self, List.set_set, set_peer, simprocAttr, -Nat.reduceSubDiff]) : p := h.mpr k
attribute [local push_cast] E78
theorem l4AddN (l : List Str) (s : Str) (hl : l.length ≤ 2097152) (hn : hasS l s = false) (h0 : l ≠ []) : Does Tryz.prog 78 [.sl false 1 (l.map strR), .sc (.string s)] (.sl true 1 ((addS l s).map strR), []) := by
  refine does_of (E := E78) (rs := [.tmp 4]) (lent := []) tOk rfl Tryz.func78 rfl (by decide) rfl rfl (Nat.le_of_ble_eq_true rfl) (Nat.le_of_ble_eq_true rfl) ?_
  have hr := rk_le l s
  obtain ⟨M, hM⟩ : ∃ M, M = addS l s := ⟨_, rfl⟩
  rw [← hM]
  have hM2 : M = l.take (rk l s) ++ s :: l.drop (rk l s) := by rw [hM]; unfold addS; rw [hn]; rfl
  ((refine go0 ?_) <;> try exact nop)
  refine loop_ind (α := Nat) (fun i => i ≤ rk l s) (fun i => ⟨[(0, .sl false 1 (l.map strR)), (1, .sc (.string s)), (5, .sc (.int .i64 i))], [], 1⟩) (fun i => rk l s - i) 0 (Nat.zero_le _) ?_ ?_
  · ((refine go0 ?_) <;> try exact nop)
  intro i hi ih
  by_cases h : i < l.length
  · obtain ⟨x, hx⟩ := ex_get h
    have hne : (l.map strR).isEmpty = false := by cases l <;> simp at h ⊢
    cases e : lts x s with
    | true =>
      have := rk_step hi hx e
      (have zF := an hx e; (refine go0 ?_) <;> first | exact nop | clear zF)
      refine ih (i + 1) _ (by omega) this ?_
      ((refine go1 ?_) <;> try exact nop)
    | false =>
      have hk : i = rk l s := by
        rcases Nat.lt_or_eq_of_le hi with h | h
        · obtain ⟨y, hy, hy2⟩ := rk_all h
          rw [hx] at hy; cases hy; rw [e] at hy2; cases hy2
        · exact h
      have e2 : ¬ x = s := fun q => by
        unfold hasS at hn
        rw [← hk, hx, q] at hn
        simp at hn
      rw [← hk] at hM2
      (have zF := an hx (an e (an e2 hne)); (refine rF62_0 ?_ <;> repeat (refine dr ?_; refine rF62_0 ?_)) <;> first | exact nop | clear zF)
      simp [hM2, strR]
  · have hk : i = l.length := by omega
    have hM3 : M = l ++ [s] := by
      rw [hM2, ← show l.length = rk l s by omega]; simp
    subst hk
    have hne : (l.map strR).isEmpty = false := by cases l <;> simp at h0 ⊢
    (have zF := hne; (refine rF62_0 ?_ <;> repeat (refine dr ?_; refine rF62_0 ?_)) <;> first | exact nop | clear zF)
    simp [hM3, strR]
def E43 : Env := { T := T0, kp := look [(0, [0, 1]), (1, [2, 3, 4]), (2, [4]), (3, [2, 3, 4]), (4, [2, 3, 4, 5]), (5, [4, 5]), (6, [2, 3, 4, 5]), (7, [2, 3, 4, 5, 6]), (8, [4, 5]), (9, [2, 3, 4, 5, 6]), (10, [2, 3, 4, 5, 6]), (11, [2, 3, 4, 5, 6]), (12, [3, 4, 5, 6]), (13, [3, 4, 5, 6, 7]), (14, [3, 4, 5, 6, 7]), (15, [3, 4, 5, 6]), (16, [4, 5]), (17, [2, 3, 4, 5, 6]), (18, [2, 3, 4, 5, 6, 9]), (19, [3, 4, 5, 6, 10]), (20, [2, 3, 4, 5, 6, 9, 10, 11]), (21, [3, 4, 5, 6]), (22, [3, 4, 5, 6, 10, 11]), (23, [3, 4, 5, 6]), (24, [3, 4, 5, 6]), (25, [3, 4, 5, 6]), (26, [3, 4, 5, 6]), (27, [4, 5])], dp := look2 [(20, [[], [0], [], [2], [2, 3], [0, 1, 2, 3, 4], [], [6], [0, 1, 2, 3, 4, 5, 6, 7], [0, 1, 2, 3, 4, 5, 6, 7, 8], [0, 1, 2, 3, 4, 5, 6, 7, 8, 9], [0, 1, 2, 3, 4, 5, 6, 7, 8, 9, 10], [0, 1, 2, 3, 4, 5, 6, 7, 8, 9], [0, 1, 2, 3, 4, 5, 6, 7, 8, 9, 12], [0, 1, 2, 3, 4, 5, 6, 7, 8, 9, 10, 11, 12, 13], [0, 1, 2, 3, 4, 5, 6, 7, 8, 9, 10, 11, 12, 13, 14], [0, 1, 2, 3, 4, 5, 6, 7, 8, 9, 10, 11, 12, 13, 14, 15], [0, 1, 2, 3, 4, 5, 6, 7, 8, 9, 10, 11, 12, 13, 14, 15, 16], [0, 1, 2, 3, 4, 5, 6, 7, 8, 9, 10, 11, 12, 13, 14, 15, 16, 17], [0, 1, 2, 3, 4, 5, 6, 7, 8, 9, 10, 11, 12, 13, 14, 15, 16, 17, 18], [0, 1, 2, 3, 4, 5, 6, 7, 8, 9, 10, 11, 12, 13, 14, 15, 16, 17, 18, 19], [0, 1, 2, 3, 4, 5, 6, 7, 8, 9, 10, 11, 12, 13, 14, 15, 16, 17, 18, 19, 20], [0, 1, 2, 3, 4, 5, 6, 7, 8, 9, 10, 11, 12, 13, 14, 15, 16, 17, 18, 19, 20, 21], [0, 1, 2, 3, 4, 5, 6, 7, 8, 9, 10, 11, 12, 13, 14, 15, 16, 17, 18, 19, 20, 21, 22], [0, 1, 2, 3, 4, 5, 6, 7, 8, 9, 10, 11, 12, 13, 14, 15, 16, 17, 18, 19, 20, 21, 22, 23], [0, 1, 2, 3, 4, 5, 6, 7, 8, 9, 10, 11, 12, 13, 14, 15, 16, 17, 18, 19, 20, 21, 22, 23, 24], [0, 1, 2, 3, 4, 5, 6, 7, 8, 9, 10, 11, 12, 13, 14, 15, 16, 17, 18, 19, 20, 21, 22, 23, 24, 25], [0, 1, 2, 3, 4, 5, 6, 7, 8, 9, 10, 11, 12, 13, 14, 15, 16, 17, 18, 19, 20, 21, 22, 23, 24, 25, 26], [0, 1, 2, 3, 4, 5, 6, 7, 8, 9, 10, 11, 12, 13, 14, 15, 16, 17, 18, 19, 20, 21, 22, 23, 24, 25, 26, 27]])], fz := look [(12, [6])], md := look3 [(12, 4, [2])] }
attribute [local push_cast] E43
def E43n : Env := { E43 with md := fun _ _ => [], fz := fun _ => [] }
attribute [local push_cast] E43n
theorem notP_fit {p : Peer} {u : Str} (h : (addS p.N u).length ≤ 376) : notP p u = ⟨p.lies, 0, p.last, ⟨#[]⟩, addS p.N u⟩ := by
  unfold notP; rw [if_pos h]; rfl
theorem notP_full {p : Peer} {u : Str} (h : ¬ (addS p.N u).length ≤ 376) : notP p u = ⟨p.lies, 0, p.last, ⟨#[]⟩, p.N⟩ := by
  unfold notP; rw [if_neg h]; rfl
set_option maxRecDepth 20000 in
set_option maxHeartbeats 4000000 in
theorem specFetchTake (f : Fetch) (m : Message) (hf : okFetch f) (hm : okMessage m) : Does Tryz.prog 43 [.ag (fetchC false f), .ag (messageC false m)] (.ag (fetchC true (ftakeF f m)), []) := by
  obtain ⟨M, hM⟩ : ∃ M, M = ftakeF f m := ⟨_, rfl⟩
  rw [← hM]
  have hQl := hf.2.2.1
  have hIl := hf.2.1.1.1
  have hPl := hf.2.1.2.1
  unfold ftakeF at hM
  cases hv : validF f with
  | false =>
    rw [if_neg (by rw [hv]; simp)] at hM
    subst hM
    refine does_of (E := E43) (rs := [.cell 4 53]) (lent := []) tOk rfl Tryz.func43 rfl (by decide) rfl rfl (Nat.le_of_ble_eq_true rfl) (Nat.le_of_ble_eq_true rfl) ?_
    ((refine go0 ?_ <;> repeat (refine dr ?_; refine go0 ?_)) <;> try exact nop)
    refine callC (specValidFetch f hf) ?_
    rw [hv]
    ((refine go0 ?_ <;> repeat (refine dr ?_; refine go0 ?_)) <;> try exact nop)
    rfl
  | true =>
  rw [if_pos hv] at hM
  have hvd := specValidFetch f hf
  rw [hv] at hvd
  by_cases c1 : m.to = 0
  rotate_left
  · rw [(take_out (f := f) (m := m) (.inl c1)).1] at hM
    replace hM := hM.symm
    subst hM
    refine does_of (E := E43) (rs := [.cell 4 53]) (lent := []) tOk rfl Tryz.func43 rfl (by decide) rfl rfl (Nat.le_of_ble_eq_true rfl) (Nat.le_of_ble_eq_true rfl) ?_
    ((refine go0 ?_ <;> repeat (refine dr ?_; refine go0 ?_)) <;> try exact nop)
    refine callC hvd ?_
    ((refine go0 ?_ <;> repeat (refine dr ?_; refine go0 ?_)) <;> try exact nop)
    refine callC (l7Copy f hf) ?_
    ((refine rF62_1 ?_ <;> repeat (refine dr ?_; refine rF62_1 ?_)) <;> try exact nop)
  have hin : inB m.fr 1 f.Q.length = decide (1 ≤ m.fr ∧ m.fr ≤ f.Q.length) := rfl
  by_cases c2 : 1 ≤ m.fr ∧ m.fr ≤ f.Q.length
  rotate_left
  · rw [(take_out (f := f) (m := m) (by omega)).1] at hM
    replace hM := hM.symm
    subst hM
    refine does_of (E := E43) (rs := [.cell 4 53]) (lent := []) tOk rfl Tryz.func43 rfl (by decide) rfl rfl (Nat.le_of_ble_eq_true rfl) (Nat.le_of_ble_eq_true rfl) ?_
    ((refine go0 ?_ <;> repeat (refine dr ?_; refine go0 ?_)) <;> try exact nop)
    refine callC hvd ?_
    ((refine go0 ?_ <;> repeat (refine dr ?_; refine go0 ?_)) <;> try exact nop)
    refine callC (l7Copy f hf) ?_
    ((refine rF62_1 ?_ <;> repeat (refine dr ?_; refine rF62_1 ?_)) <;> try exact nop)
    refine callC (l1In ..) ?_
    rw [hin]
    (have zF := c2; (refine rF62_1 ?_ <;> repeat (refine dr ?_; refine rF62_1 ?_)) <;> first | exact nop | clear zF)
  obtain ⟨i, hi⟩ : ∃ i : Nat, m.fr = (i : Int) + 1 := ⟨(m.fr - 1).toNat, by omega⟩
  obtain ⟨p, hp⟩ := ex_get (show i < f.Q.length by omega)
  obtain ⟨e1, _⟩ := take_in c1 hi hp
  rw [e1] at hM
  clear e1
  have ei : ((i : Int) + 1 - 1).toNat = i := by omega
  have ei2 : (i : Int) + 1 - 1 = i := by omega
  have hil : i < f.Q.length := by omega
  obtain ⟨q1, q2, q3, q4, q5, q6⟩ := peer_up (peer_of hv hp)
  have hb : inB ((i : Int) + 1) 1 f.Q.length = true := decide_eq_true (by omega)
  by_cases c4 : p.wait = 0
  · rw [if_pos (.inl c4)] at hM
    replace hM := hM.symm
    subst hM
    refine does_of (E := E43) (rs := [.cell 4 53]) (lent := []) tOk rfl Tryz.func43 rfl (by decide) rfl rfl (Nat.le_of_ble_eq_true rfl) (Nat.le_of_ble_eq_true rfl) ?_
    ((refine go0 ?_ <;> repeat (refine dr ?_; refine go0 ?_)) <;> try exact nop)
    refine callC hvd ?_
    ((refine go0 ?_ <;> repeat (refine dr ?_; refine go0 ?_)) <;> try exact nop)
    refine callC (l7Copy f hf) ?_
    (have zF := hi; (refine rF62_1 ?_ <;> repeat (refine dr ?_; refine rF62_1 ?_)) <;> first | exact nop | clear zF)
    refine callC (l1In ..) ?_
    rw [hb]
    (have zF := an hi (an hp (an c4 (an ei2 ei))); (refine rF62_2 ?_ <;> repeat (refine dr ?_; refine rF62_2 ?_)) <;> first | exact nop | clear zF)
  by_cases c5 : m.sum = p.ask
  rotate_left
  · rw [if_pos (.inr c5)] at hM
    replace hM := hM.symm
    subst hM
    have c5' : ¬ p.ask = m.sum := fun e => c5 e.symm
    refine does_of (E := E43) (rs := [.cell 4 53]) (lent := []) tOk rfl Tryz.func43 rfl (by decide) rfl rfl (Nat.le_of_ble_eq_true rfl) (Nat.le_of_ble_eq_true rfl) ?_
    ((refine go0 ?_ <;> repeat (refine dr ?_; refine go0 ?_)) <;> try exact nop)
    refine callC hvd ?_
    ((refine go0 ?_ <;> repeat (refine dr ?_; refine go0 ?_)) <;> try exact nop)
    refine callC (l7Copy f hf) ?_
    (have zF := hi; (refine rF62_1 ?_ <;> repeat (refine dr ?_; refine rF62_1 ?_)) <;> first | exact nop | clear zF)
    refine callC (l1In ..) ?_
    rw [hb]
    (have zF := an hi (an hp (an c4 (an c5' (an ei2 ei)))); (refine rF62_2 ?_ <;> repeat (refine dr ?_; refine rF62_2 ?_)) <;> first | exact nop | clear zF)
  rw [if_neg (by rintro (q | q); exact c4 q; exact q c5)] at hM
  cases c6 : m.has with
  | false =>
    rw [if_pos c6, c5] at hM
    by_cases hfit : (addS p.N p.ask).length ≤ 376
    · rw [notP_fit hfit] at hM
      subst hM
      refine does_of (E := E43) (rs := [.cell 4 53]) (lent := []) tOk rfl Tryz.func43 rfl (by decide) rfl rfl (Nat.le_of_ble_eq_true rfl) (Nat.le_of_ble_eq_true rfl) ?_
      ((refine go0 ?_ <;> repeat (refine dr ?_; refine go0 ?_)) <;> try exact nop)
      refine callC hvd ?_
      ((refine go0 ?_ <;> repeat (refine dr ?_; refine go0 ?_)) <;> try exact nop)
      refine callC (l7Copy f hf) ?_
      (have zF := hi; (refine rF62_1 ?_ <;> repeat (refine dr ?_; refine rF62_1 ?_)) <;> first | exact nop | clear zF)
      refine callC (l1In ..) ?_
      rw [hb]
      (have zF := an hi (an hp (an c4 (an c5 (an c6 (an ei2 ei))))); (refine rF62_3 ?_ <;> repeat (refine dr ?_; refine rF62_3 ?_)) <;> first | exact nop | clear zF)
      refine callC (l4Add p.N p.ask (by omega)) ?_
      (have zF := an hi (an hp (an c4 (an c5 (an c6 (an ei2 ei))))); (refine rF62_4 ?_ <;> repeat (refine dr ?_; refine rF62_4 ?_)) <;> first | exact nop | clear zF)
    · rw [notP_full hfit] at hM
      subst hM
      have hnh : hasS p.N p.ask = false := by
        cases q : hasS p.N p.ask with
        | false => rfl
        | true => exact (hfit (by unfold addS; rw [q]; exact q4)).elim
      have hal := addS_len1 p.N p.ask
      refine does_of (E := E43n) (rs := [.cell 4 53]) (lent := []) tOk rfl Tryz.func43 rfl (by decide) rfl rfl (Nat.le_of_ble_eq_true rfl) (Nat.le_of_ble_eq_true rfl) ?_
      ((refine go0 ?_ <;> repeat (refine dr ?_; refine go0 ?_)) <;> try exact nop)
      refine callC hvd ?_
      ((refine go0 ?_ <;> repeat (refine dr ?_; refine go0 ?_)) <;> try exact nop)
      refine callC (l7Copy f hf) ?_
      (have zF := hi; (refine rF62_1 ?_ <;> repeat (refine dr ?_; refine rF62_1 ?_)) <;> first | exact nop | clear zF)
      refine callC (l1In ..) ?_
      rw [hb]
      (have zF := an hi (an hp (an c4 (an c5 (an c6 (an ei2 ei))))); (refine rF62_2 ?_ <;> repeat (refine dr ?_; refine rF62_2 ?_)) <;> first | exact nop | clear zF)
      refine callC (l4AddN p.N p.ask (by omega) hnh (fun e => by rw [e] at hal hfit; simp at hal; omega)) ?_
      (have zF := an hi (an hp (an c4 (an c5 (an c6 (an ei2 ei))))); (refine rF62_4 ?_ <;> repeat (refine dr ?_; refine rF62_4 ?_)) <;> first | exact nop | clear zF)
  | true =>
    rw [if_neg (by rw [c6]; simp)] at hM
    have hbt : m.tx.size ≤ 2097152 := hm.2
    unfold lieB at hM
    rw [c5] at hM
    have hrd := specReadList m.tx f.st.w (by omega)
    have hput := specPut f.st m.tx f.now hf.2.1 (by omega)
    have hcode := put_code f.st m.tx f.now
    generalize readL m.tx f.st.w = R at *
    generalize putF f.st m.tx f.now = A at *
    obtain ⟨l, rb⟩ := R
    obtain ⟨o, k⟩ := A
    simp only at hM hrd hput hcode
    obtain ⟨L, hL⟩ : ∃ L, L = (!decide (sumS m.tx f.st.w = p.ask) || (decide (p.ask = f.nm) && !rb) || decide (k = 1) || decide (k = 2)) := ⟨_, rfl⟩
    rw [← hL] at hM
    have hMt : L = true → M = { f with Q := f.Q.set i ⟨if 3 < p.lies + 1 then 3 else p.lies + 1, 0, p.last, ⟨#[]⟩, p.N⟩ } := fun e => by
      rw [hM, e]; simp [lieP]; rfl
    have hMf : L = false → M = { f with full := if k = 3 then true else f.full, st := if k = 0 then o else f.st, Q := f.Q.set i ⟨p.lies, 0, p.last, ⟨#[]⟩, p.N⟩ } := fun e => by
      rw [hM, e]; simp [lieP]; rfl
    clear hM
    have l3 : ¬ 3 < p.lies := by omega
    refine does_of (E := E43) (rs := [.cell 4 53]) (lent := []) tOk rfl Tryz.func43 rfl (by decide) rfl rfl (Nat.le_of_ble_eq_true rfl) (Nat.le_of_ble_eq_true rfl) ?_
    ((refine go0 ?_ <;> repeat (refine dr ?_; refine go0 ?_)) <;> try exact nop)
    refine callC hvd ?_
    ((refine go0 ?_ <;> repeat (refine dr ?_; refine go0 ?_)) <;> try exact nop)
    refine callC (l7Copy f hf) ?_
    (have zF := hi; (refine rF62_1 ?_ <;> repeat (refine dr ?_; refine rF62_1 ?_)) <;> first | exact nop | clear zF)
    refine callC (l1In ..) ?_
    rw [hb]
    (have zF := an hi (an hp (an c4 (an c5 (an c6 (an ei2 ei))))); (refine rF62_2 ?_ <;> repeat (refine dr ?_; refine rF62_2 ?_)) <;> first | exact nop | clear zF)
    refine callC hrd ?_
    (have zF := an hi (an hp (an c4 (an c5 (an c6 (an ei2 ei))))); (refine rF62_2 ?_ <;> repeat (refine dr ?_; refine rF62_2 ?_)) <;> first | exact nop | clear zF)
    refine callC hput ?_
    (have zF := an hi (an hp (an c4 (an c5 (an c6 (an ei2 ei))))); (refine rF62_2 ?_ <;> repeat (refine dr ?_; refine rF62_2 ?_)) <;> first | exact nop | clear zF)
    refine callC (specSum m.tx f.st.w (by omega)) ?_
    by_cases s1 : sumS m.tx f.st.w = p.ask
    rotate_left
    · have hL : L = true := by rw [hL]; simp [s1]
      have hM := hMt hL
      subst hM hL
      by_cases s3 : 3 < p.lies + 1
      · (have zF := an hi (an hp (an c4 (an c5 (an c6 (an s1 (an s3 (an ei2 ei))))))); (refine rF62_5 ?_ <;> repeat (refine dr ?_; refine rF62_5 ?_)) <;> first | exact nop | clear zF)
      · (have zF := an hi (an hp (an c4 (an c5 (an c6 (an s1 (an s3 (an ei2 ei))))))); (refine rF62_5 ?_ <;> repeat (refine dr ?_; refine rF62_5 ?_)) <;> first | exact nop | clear zF)
    have fin : ∀ s2 : p.ask = f.nm → rb = true, L = (decide (k = 1) || decide (k = 2)) := fun s2 => by
      rw [hL]
      by_cases q : p.ask = f.nm
      · simp [s1, s2 q]
      · simp [s1, q]
    by_cases s4 : p.ask = f.nm ∧ rb = false
    · obtain ⟨s2, rfl⟩ := s4
      have s1' : sumS m.tx f.st.w = f.nm := s2 ▸ s1
      have hL : L = true := by rw [hL]; simp [s1, s2]
      have hM := hMt hL
      subst hM hL
      by_cases s3 : 3 < p.lies + 1
      · (have zF := an hi (an hp (an c4 (an c5 (an c6 (an s1' (an s2 (an s3 (an ei2 ei)))))))); (refine rF62_5 ?_ <;> repeat (refine dr ?_; refine rF62_5 ?_)) <;> first | exact nop | clear zF)
      · (have zF := an hi (an hp (an c4 (an c5 (an c6 (an s1' (an s2 (an s3 (an ei2 ei)))))))); (refine rF62_5 ?_ <;> repeat (refine dr ?_; refine rF62_5 ?_)) <;> first | exact nop | clear zF)
    have hLk := fin (fun q => by cases rb with | true => rfl | false => exact (s4 ⟨q, rfl⟩).elim)
    clear fin hL
    have two : (p.ask = f.nm ∧ sumS m.tx f.st.w = f.nm ∧ rb = true) ∨ (¬ p.ask = f.nm ∧ sumS m.tx f.st.w = p.ask ∧ rb = rb) := by
      by_cases q : p.ask = f.nm
      · exact .inl ⟨q, q ▸ s1, by cases rb with | true => rfl | false => exact (s4 ⟨q, rfl⟩).elim⟩
      · exact .inr ⟨q, s1, rfl⟩
    clear s4
    rcases two with ⟨s2, s1', s5⟩ | ⟨s2, s1', s5⟩
    all_goals
      rcases hcode with e | e | e | e
      all_goals
        subst e
        simp at hLk
        subst hLk
      · have hM := hMf rfl
        simp only [reduceIte, Int.reduceEq] at hM
        subst hM
        (have zF := an hi (an hp (an c4 (an c5 (an c6 (an s1' (an s2 (an s5 (an l3 (an ei2 ei))))))))); (refine rF62_5 ?_ <;> repeat (refine dr ?_; refine rF62_5 ?_)) <;> first | exact nop | clear zF)
      · have hM := hMt rfl
        subst hM
        by_cases s3 : 3 < p.lies + 1
        · (have zF := an hi (an hp (an c4 (an c5 (an c6 (an s1' (an s2 (an s5 (an s3 (an ei2 ei))))))))); (refine rF62_5 ?_ <;> repeat (refine dr ?_; refine rF62_5 ?_)) <;> first | exact nop | clear zF)
        · (have zF := an hi (an hp (an c4 (an c5 (an c6 (an s1' (an s2 (an s5 (an s3 (an ei2 ei))))))))); (refine rF62_5 ?_ <;> repeat (refine dr ?_; refine rF62_5 ?_)) <;> first | exact nop | clear zF)
      · have hM := hMt rfl
        subst hM
        by_cases s3 : 3 < p.lies + 1
        · (have zF := an hi (an hp (an c4 (an c5 (an c6 (an s1' (an s2 (an s5 (an s3 (an ei2 ei))))))))); (refine rF62_5 ?_ <;> repeat (refine dr ?_; refine rF62_5 ?_)) <;> first | exact nop | clear zF)
        · (have zF := an hi (an hp (an c4 (an c5 (an c6 (an s1' (an s2 (an s5 (an s3 (an ei2 ei))))))))); (refine rF62_5 ?_ <;> repeat (refine dr ?_; refine rF62_5 ?_)) <;> first | exact nop | clear zF)
      · have hM := hMf rfl
        simp only [reduceIte, Int.reduceEq] at hM
        subst hM
        (have zF := an hi (an hp (an c4 (an c5 (an c6 (an s1' (an s2 (an s5 (an l3 (an ei2 ei))))))))); (refine rF62_5 ?_ <;> repeat (refine dr ?_; refine rF62_5 ?_)) <;> first | exact nop | clear zF)
end Go.Proofs.YtkkmgjhfjhcdmaaGreatDoor.Mx

namespace Go.Proofs.YtkkmgjhfjhcdmaaGreatDoor.Mx
open Go Go.RowKit Go.Proofs
theorem rF74_0 {p q : Prop} (k : q) (h : p = q := by conv => lhs; simp -dsimp (disch := first | omega | (simp only [zF, List.map_append, List.map_cons, List.map_nil, List.length_append, List.length_singleton, LR] <;> omega) | fail) only [push_cast, zF, List.map_append, List.map_cons, List.map_nil, List.length_append, List.length_singleton, simprocAttr, -Nat.reduceSubDiff]) : p := h.mpr k
theorem rF74_1 {p q : Prop} (k : q) (h : p = q := by conv => lhs; simp -dsimp (disch := first | omega | (simp only [zF, List.take_zero, liesQ, LR] <;> omega) | fail) only [push_cast, zF, List.take_zero, liesQ, simprocAttr, -Nat.reduceSubDiff]) : p := h.mpr k
def E150 : Env := { T := T0, kp := look [(0, [0, 1]), (1, [2, 3, 4]), (2, [2, 3, 4]), (3, [2, 4])] }
attribute [local push_cast] E150
set_option maxRecDepth 20000 in
set_option maxHeartbeats 1000000 in
theorem l8Send (w : World) (m : Message) (hw : okWorld w) (hm : okMessage m) : Does Tryz.prog 150 [.ag (worldC true w), .ag (messageC false m)] (.ag (worldC true (sendW w m)), []) := by
  refine does_of (E := E150) (rs := [.cell 4 125]) (lent := []) tOk rfl Tryz.func150 rfl (by decide) rfl rfl (Nat.le_of_ble_eq_true rfl) (Nat.le_of_ble_eq_true rfl) ?_
  obtain ⟨M, hM⟩ : ∃ M, M = sendW w m := ⟨_, rfl⟩
  rw [← hM]
  unfold sendW at hM
  have hl := hw.2.2.2.1
  by_cases h : w.fl.length < 300
  · rw [if_pos h] at hM
    subst hM
    (have zF := h; (refine rF74_0 ?_ <;> repeat (refine dr ?_; refine rF74_0 ?_)) <;> first | exact nop | clear zF)
  · rw [if_neg h] at hM
    subst hM
    (have zF := h; (refine go0 ?_ <;> repeat (refine dr ?_; refine go0 ?_)) <;> first | exact nop | clear zF)
def E204 : Env := { T := T0, kp := look [(0, [0]), (1, [1]), (2, [1, 3]), (3, [1, 3, 4]), (4, [1, 3, 4]), (5, [1, 3, 4]), (6, [3])] }
attribute [local push_cast] E204
theorem lies_take {Q : List Peer} {i : Nat} {p : Peer} (h : Q[i]? = some p) : liesQ (Q.take (i + 1)) = liesQ (Q.take i) + p.lies := by
  rw [take_step h]
  have : ∀ (A : List Peer), liesQ (A ++ [p]) = liesQ A + p.lies := fun A => by
    induction A with
    | nil => rw [List.nil_append, liesQ, liesQ, liesQ]; omega
    | cons a r ih => rw [List.cons_append, liesQ, liesQ, ih]; omega
  exact this _
def liesB (Q : List Peer) : Prop := ∀ p ∈ Q, 0 ≤ p.lies ∧ p.lies ≤ 3
theorem lies_rng : ∀ {Q : List Peer}, liesB Q → 0 ≤ liesQ Q ∧ liesQ Q ≤ 3 * Q.length
  | [], _ => by simp [liesQ]
  | p :: r, h => by
    have h1 := h p (List.mem_cons_self ..)
    have h2 := lies_rng (Q := r) fun q hq => h q (List.mem_cons_of_mem _ hq)
    rw [liesQ, List.length_cons]; omega
set_option maxHeartbeats 1000000 in
theorem l8Lies (f : Fetch) (hf : okFetch f) (hb : liesB f.Q) (hq : f.Q.length ≤ 2097152) : Does Tryz.prog 204 [.ag (fetchC false f)] (.sc (.int .i64 (liesQ f.Q)), []) := by
  refine does_of (E := E204) (rs := [.tmp 2]) (lent := []) tOk rfl Tryz.func204 rfl (by decide) rfl rfl (Nat.le_of_ble_eq_true rfl) (Nat.le_of_ble_eq_true rfl) ?_
  ((refine go0 ?_ <;> repeat (refine dr ?_; refine go0 ?_)) <;> try exact nop)
  refine loop_ind (α := Nat) (fun i => i ≤ f.Q.length) (fun i => ⟨[(1, .pt 1 0 0), (3, .sc (.int .i64 (liesQ (f.Q.take i)))), (4, .sc (.int .i64 i))], [(1, .bx (fetchC false f))], 2⟩) (fun i => f.Q.length - i) 0 (Nat.zero_le _) ?_ ?_
  · ((refine rF74_1 ?_) <;> try exact nop)
  intro i hi ih
  by_cases h : i < f.Q.length
  · obtain ⟨p, hx⟩ := ex_get h
    have hst := lies_take hx
    have h1 := hb p (List.mem_of_getElem? hx)
    have h2 := lies_rng (Q := f.Q.take i) fun q hq => hb q (List.mem_of_mem_take hq)
    rw [List.length_take] at h2
    (have zF := an h hx; (refine go1 ?_ <;> repeat (refine dr ?_; refine go1 ?_)) <;> first | exact nop | clear zF)
    refine ih (i + 1) _ (by omega) h ?_
    rw [hst]
    ((refine go1 ?_) <;> try exact nop)
  · rw [show f.Q.take i = f.Q from List.take_of_length_le (by omega)]
    (have zF := h; (refine go0 ?_ <;> repeat (refine dr ?_; refine go0 ?_)) <;> first | exact nop | clear zF)
theorem okL_snoc2 {α : Type} {ok : α → Prop} {l : List α} {x : α} (h : okL ok l) (hl : l.length < 300) (hx : ok x) : okL ok (l ++ [x]) :=
  ⟨by rw [List.length_append, List.length_singleton]; omega, fun a ha => by
    rcases List.mem_append.1 ha with q | q
    · exact h.2 a q
    · rw [List.mem_singleton.1 q]; exact hx⟩
theorem send_ok {w : World} {m : Message} (hw : okWorld w) (hm : okMessage m) : okWorld (sendW w m) := by
  unfold sendW
  split
  · rename_i h
    exact ⟨hw.1, hw.2.1, hw.2.2.1, okL_snoc2 hw.2.2.2 h hm⟩
  · exact hw
theorem sends_ok : ∀ {L : List Message} {w : World}, okWorld w → (∀ m ∈ L, okMessage m) → okWorld (sendsW w L)
  | [], _, h, _ => h
  | m :: r, w, h, hm => by
    unfold sendsW
    rw [List.foldl_cons]
    exact sends_ok (send_ok h (hm m (List.mem_cons_self ..))) fun x hx => hm x (List.mem_cons_of_mem _ hx)
theorem sends_step {w : World} {L : List Message} {i : Nat} {m : Message} (h : L[i]? = some m) : sendsW w (L.take (i + 1)) = sendW (sendsW w (L.take i)) m := by
  unfold sendsW
  rw [take_step h, List.foldl_append]
  rfl
def E105 : Env := { T := T0, kp := look [(0, [0]), (1, [1, 2]), (2, [1, 2, 3, 4]), (3, [1, 2, 4]), (4, [1, 2, 4, 5]), (5, [1, 2, 4, 5]), (6, [1, 2, 4, 5]), (7, [1, 2])], dp := look2 [(6, [[], [], [], [1, 2], [1, 2, 3], [0, 1, 2, 3, 4], [0, 1, 2, 3, 4, 5]])], md := look3 [(6, 5, [2, 0])] }
attribute [local push_cast] E105
set_option maxRecDepth 20000 in
set_option maxHeartbeats 2000000 in
theorem l8Tick (w : World) (hw : okWorld w) (hv : validF w.f = true) : Does Tryz.prog 105 [.ag (worldC true w)] (.ag (worldC true (tickW w)), []) := by
  refine does_of (E := E105) (rs := [.cell 2 125]) (lent := []) tOk rfl Tryz.func105 rfl (by decide) rfl rfl (Nat.le_of_ble_eq_true rfl) (Nat.le_of_ble_eq_true rfl) ?_
  obtain ⟨M, hM⟩ : ∃ M, M = tickW w := ⟨_, rfl⟩
  rw [← hM]
  unfold tickW at hM
  ((refine go0 ?_ <;> repeat (refine dr ?_; refine go0 ?_)) <;> try exact nop)
  refine callC (specFetchTick w.f hw.1) ?_
  have hq : w.f.Q.length ≤ 5 := (validF_up hv).2.2.2.1.2
  obtain ⟨t1, t2⟩ := ftick_ok hw.1 hq
  generalize ftickF w.f = R at *
  obtain ⟨F, O⟩ := R
  simp only at t1 t2 hM
  have hO := t2.1
  have ho := fun i : Nat => sends_ok (L := O.take i) (w := { w with f := F }) ⟨t1, hw.2⟩ fun m hm => t2.2 m (List.mem_of_mem_take hm)
  ((refine go0 ?_ <;> repeat (refine dr ?_; refine go0 ?_)) <;> try exact nop)
  refine loop_ind (α := Nat × World) (fun q => q.1 ≤ O.length ∧ q.2 = sendsW { w with f := F } (O.take q.1)) (fun q => ⟨[(1, .pt 1 0 0), (2, .pt 8 0 0), (4, .ow 15 0 O.length), (5, .sc (.int .i64 q.1))],
    [(1, .bx [.sc (.string q.2.f.nm), .sc (.int .i64 q.2.f.now), .sc (.bool q.2.f.full), .sc (.int .i64 q.2.f.st.w), .sc (.int .i64 q.2.f.st.r), .ow 2 0 q.2.f.st.I.length, .ow 3 0 q.2.f.st.P.length, .ow 4 0 q.2.f.Q.length, .ow 5 0 q.2.up.length, .ow 6 0 q.2.ss.length, .ow 7 0 q.2.fl.length, .sc (.int .i64 q.2.wa)]), (2, .ar 2 0 (q.2.f.st.I.map (itemC true))), (3, .ar 1 0 (q.2.f.st.P.map strR)), (4, .ar 5 0 (q.2.f.Q.map (peerC true))), (5, .ar 1 0 (q.2.up.map boolR)), (6, .ar 4 0 (q.2.ss.map (storeC true))), (7, .ar 5 0 (q.2.fl.map (messageC true))), (8, .bx [.sc (.string ⟨#[]⟩), .sc (.int .i64 0), .sc (.bool false), .sc (.int .i64 0), .sc (.int .i64 0), .ow 9 0 0, .ow 10 0 0, .ow 11 0 0, .ow 12 0 0, .ow 13 0 0, .ow 14 0 0, .sc (.int .i64 0)]), (9, .ar 2 0 []), (10, .ar 1 0 []), (11, .ar 5 0 []), (12, .ar 1 0 []), (13, .ar 4 0 []), (14, .ar 5 0 []), (15, .ar 5 0 (O.map (messageC true)))], 16⟩) (fun q => O.length - q.1) (0, { w with f := F }) ⟨Nat.zero_le _, by rw [List.take_zero]; rfl⟩ ?_ ?_
  · ((refine go0 ?_) <;> try exact nop)
  rintro ⟨i, x⟩ ⟨hi, hx⟩ ih
  replace hi : i ≤ O.length := hi
  replace hx : x = sendsW { w with f := F } (O.take i) := hx
  have hox := ho i
  rw [← hx] at hox
  by_cases h : i < O.length
  · obtain ⟨m, hm⟩ := ex_get h
    have hst := sends_step (w := { w with f := F }) hm
    rw [← hx] at hst
    have hox2 := ho (i + 1)
    rw [hst] at hox2
    have hmo := t2.2 m (List.mem_of_getElem? hm)
    have hd := l8Send x m hox hmo
    obtain ⟨y, hy⟩ : ∃ y, y = sendW x m := ⟨_, rfl⟩
    rw [← hy] at hd hst hox2
    have b1 := hox2.1.2.1.1.1
    have b2 := hox2.1.2.1.2.1
    have b3 := hox2.1.2.2.1
    have b4 := hox2.2.1.1
    have b5 := hox2.2.2.1.1
    have b6 := hox2.2.2.2.1
    (have zF := an h hm; (refine go0 ?_ <;> repeat (refine dr ?_; refine go0 ?_)) <;> first | exact nop | clear zF)
    refine callC hd ?_
    (have zF := h; (refine go0 ?_ <;> repeat (refine dr ?_; refine go0 ?_)) <;> first | exact nop | clear zF)
    refine ih (i + 1, y) _ (by show O.length - (i + 1) < O.length - i; omega) ⟨h, hst.symm⟩ ?_
    ((refine go1 ?_) <;> try exact nop)
  · rw [show O.take i = O from List.take_of_length_le (by omega), ← hM] at hx
    subst hx
    (have zF := h; (refine go0 ?_ <;> repeat (refine dr ?_; refine go0 ?_)) <;> first | exact nop | clear zF)
end Go.Proofs.YtkkmgjhfjhcdmaaGreatDoor.Mx

namespace Go.Proofs.YtkkmgjhfjhcdmaaGreatDoor.Mx
open Go Go.RowKit Go.Proofs
def E45 : Env := { T := T0, kp := look [(0, [0, 1]), (1, [2, 3, 4]), (2, [4]), (3, [2, 3, 4]), (4, [4, 5])], dp := look2 [(3, [[], [0], [], [0, 1, 2], [0, 1, 2, 3], [0, 1, 2, 3, 4], [0, 1, 2, 3, 4], [], [0, 1, 2, 3, 4, 5, 7], [0, 1, 2, 3, 4, 5, 6, 7, 8]])], md := look3 [(3, 3, [2, 0])] }
attribute [local push_cast] E45
set_option maxRecDepth 20000 in
set_option maxHeartbeats 2000000 in
theorem implFetchTake (f : Fetch) (m : Message) (hf : okFetch f) (hm : okMessage m) : Does Tryz.prog 45 [.ag (fetchC false f), .ag (messageC false m)] (.ag (fetchC true (ftakeF f m)), []) := by
  refine does_of (E := E45) (rs := [.cell 4 53]) (lent := []) tOk rfl Tryz.func45 rfl (by decide) rfl rfl (Nat.le_of_ble_eq_true rfl) (Nat.le_of_ble_eq_true rfl) ?_
  obtain ⟨M, hM⟩ : ∃ M, M = ftakeF f m := ⟨_, rfl⟩
  rw [← hM]
  unfold ftakeF at hM
  have hQl := hf.2.2.1
  have hIl := hf.2.1.1.1
  have hPl := hf.2.1.2.1
  ((refine go0 ?_ <;> repeat (refine dr ?_; refine go0 ?_)) <;> try exact nop)
  refine callC (implValidFetch f hf) ?_
  cases hv : validF f with
  | false =>
    rw [if_neg (by rw [hv]; simp)] at hM
    subst hM
    ((refine go0 ?_ <;> repeat (refine dr ?_; refine go0 ?_)) <;> try exact nop)
    rfl
  | true =>
  rw [if_pos hv] at hM
  ((refine go0 ?_ <;> repeat (refine dr ?_; refine go0 ?_)) <;> try exact nop)
  refine callC (copyFetch f hf) ?_
  ((refine go0 ?_ <;> repeat (refine dr ?_; refine go0 ?_)) <;> try exact nop)
  refine callC (implTake f m hf hm hv) ?_
  rw [← hM]
  ((refine go0 ?_ <;> repeat (refine dr ?_; refine go0 ?_)) <;> try exact nop)
theorem emF_ok : okFetch emF := ⟨Nat.zero_le _, emS_ok, Nat.zero_le _, fun a h => by cases h⟩
theorem addS_ok {l : List Str} {s : Str} (hl : okL okStr l) (h : l.length ≤ 2097151) (hs : okStr s) : okL okStr (addS l s) :=
  ⟨by have := addS_len1 l s; omega, fun a ha => by
    unfold addS at ha
    cases hc : hasS l s with
    | true => rw [hc, cond_true] at ha; exact hl.2 a ha
    | false =>
      rw [hc, cond_false] at ha
      simp only [List.mem_append, List.mem_cons] at ha
      rcases ha with q | q | q
      · exact hl.2 a (List.mem_of_mem_take q)
      · rw [q]; exact hs
      · exact hl.2 a (List.mem_of_mem_drop q)⟩
theorem ftake_ok {f : Fetch} {m : Message} (hf : okFetch f) (hm : okMessage m) : okFetch (ftakeF f m) := by
  have hm2 : m.tx.size ≤ 2097152 := hm.2
  unfold ftakeF
  split
  · rename_i hv
    unfold takeF
    split
    · exact hf
    · split
      · exact hf
      · rename_i p hp
        have hpo := hf.2.2.2 p (List.mem_of_getElem? hp)
        have hN := (peer_up (peer_of hv hp)).2.2.2.1
        have setok : ∀ q : Peer, okPeer q → okL okPeer (f.Q.set (m.fr - 1).toNat q) := fun q hq => ⟨by rw [List.length_set]; exact hf.2.2.1, fun a ha => by
          rcases List.mem_or_eq_of_mem_set ha with h | h
          · exact hf.2.2.2 a h
          · rw [h]; exact hq⟩
        split
        · exact hf
        · split
          · refine ⟨hf.1, hf.2.1, setok _ ⟨Nat.zero_le _, ?_⟩⟩
            unfold notP
            simp only
            split
            · exact addS_ok hpo.2 (by omega) hm.1
            · exact hpo.2
          · refine ⟨hf.1, ?_, setok _ ⟨Nat.zero_le _, hpo.2⟩⟩
            simp only
            split
            · exact put_ok hf.2.1 hm2
            · exact hf.2.1
  · exact emF_ok
end Go.Proofs.YtkkmgjhfjhcdmaaGreatDoor.Mx

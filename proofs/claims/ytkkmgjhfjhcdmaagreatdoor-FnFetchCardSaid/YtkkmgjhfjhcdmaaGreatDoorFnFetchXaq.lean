/- A machine over values for Go functions, proved sound, and functions run on it: texts F75, F76, F77, V23, F40, F57, F58, F54. -/
import Derived.Test.YtkkmgjhfjhcdmaaGreatDoorFnFetchXal
import Derived.Test.YtkkmgjhfjhcdmaaGreatDoorFnFetchXam
import Derived.Test.YtkkmgjhfjhcdmaaGreatDoorFnFetchXan
import Derived.Test.YtkkmgjhfjhcdmaaGreatDoorFnFetchXap
set_option linter.all false
namespace Go.Proofs.YtkkmgjhfjhcdmaaGreatDoor.Mx
open Go Go.RowKit Go.Proofs
theorem rF75_0 {p q : Prop} (k : q) (h : p = q := by conv => lhs; simp -dsimp (disch := first | omega | (simp only [zF, seg_tk, seg_dr, wr_id, LR] <;> omega) | fail) only [push_cast, zF, seg_tk, seg_dr, wr_id, simprocAttr, -Nat.reduceSubDiff]) : p := h.mpr k
theorem rF75_1 {p q : Prop} (k : q) (h : p = q := by conv => lhs; simp -dsimp (disch := first | omega | (simp only [zF, wr_wr, LR] <;> omega) | fail) only [push_cast, zF, wr_wr, simprocAttr, -Nat.reduceSubDiff]) : p := h.mpr k
theorem wr_i64 (n : Int) : wr .i64 n = (n + 9223372036854775808) % 18446744073709551616 - 9223372036854775808 := by
  show wrap64 n = _
  unfold wrap64
  rfl
theorem wr_wr (a b c : Int) : wr .i64 (wr .i64 (a + b) - c) = wr .i64 (a + (b - c)) := by
  rw [wr_i64, wr_i64, wr_i64]
  omega
theorem lies_of {f : Fetch} (h : validF f = true) : liesB f.Q := fun p hp => (peerB_up ((validF_up h).2.2.2.2 p hp)).1
def E178 : Env := { T := T0, kp := look [(0, [0, 1]), (1, [1, 2, 4]), (2, [1, 2, 4, 5]), (3, [2, 4, 5]), (4, [2, 4, 5]), (5, [2, 4, 5, 6]), (6, [2, 4, 6]), (7, [2, 4]), (8, [2, 4, 5]), (9, [2, 4]), (10, [2, 4, 5]), (11, [2, 4, 5, 7]), (12, [2, 4, 5, 7, 8]), (13, [2, 4, 7, 8, 9]), (14, [2, 4, 7, 8, 9]), (15, [2, 4, 7, 8, 9]), (16, [2, 4, 8])], dp := look2 [(2, [[], [], [1], [], [1, 2, 3], [0, 1, 2, 3, 4], [], [6], [], [8], [6, 7, 8, 9], [0, 1, 2, 3, 4, 5, 6, 7, 8, 9, 10], [0, 1, 2, 3, 4, 5, 6, 7, 8, 9, 10, 11], [0, 1, 2, 3, 4, 5, 6, 7, 8, 9, 10, 11, 12]]), (6, [[], [0], [], [2], [2, 3], [0, 1, 2, 3, 4], [], [0, 1, 2, 3, 4, 5, 6], [0, 1, 2, 3, 4, 5, 6, 7], [0, 1, 2, 3, 4, 5, 6, 7, 8]])], md := look3 [(16, 2, [2, 0])] }
attribute [local push_cast] E178
set_option maxRecDepth 20000 in
set_option maxHeartbeats 4000000 in
theorem l8Bring (w : World) (k : Nat) (hw : okWorld w) (hv : goodW w) (hk : k < w.fl.length) : Does Tryz.prog 178 [.ag (worldC true w), .sc (.int .i64 k)] (.ag (worldC true (bringW w k)), []) := by
  refine does_of (E := E178) (rs := [.cell 4 125]) (lent := []) tOk rfl Tryz.func178 rfl (by decide) rfl rfl (Nat.le_of_ble_eq_true rfl) (Nat.le_of_ble_eq_true rfl) ?_
  obtain ⟨M, hM⟩ : ∃ M, M = bringW w k := ⟨_, rfl⟩
  rw [← hM]
  unfold bringW at hM
  obtain ⟨m, hm⟩ := ex_get hk
  rw [hm] at hM
  simp only at hM
  unfold recvW at hM
  obtain ⟨a, b, c, d, g, i⟩ := id hv
  obtain ⟨m1, m2, m3, m4⟩ := msgB_up (i m (List.mem_of_getElem? hm))
  have hmo : okMessage m := hw.2.2.2.2 m (List.mem_of_getElem? hm)
  have hq : w.f.Q.length ≤ 5 := (validF_up a).2.2.2.1.2
  have hrl := rmAt_len hk
  have e1 : ((k : Int) + 1).toNat = k + 1 := by omega
  have e2 : k + (w.fl.drop (k + 1)).length = (rmAt w.fl k).length := by rw [List.length_drop]; omega
  have e4 : (w.fl.take k).map (messageC true) ++ (w.fl.drop (k + 1)).map (messageC true) = (rmAt w.fl k).map (messageC true) := by unfold rmAt; rw [List.map_append]
  by_cases h0 : m.to = 0
  · simp only [if_pos h0] at hM
    have tv := (take_valid m a).1
    have tq := (take_valid m a).2.2.2.1
    have fo := ftake_ok hw.1 hmo
    have td := specFetchTake w.f m hw.1 hmo
    rw [ftake_of m a] at hM fo td
    generalize takeF w.f m = F at *
    have l1 := l8Lies w.f hw.1 (lies_of a) (by omega)
    have l2 := l8Lies F fo (lies_of tv) (by omega)
    have f1 := fo.2.1.1.1
    have f2 := fo.2.1.2.1
    have h0d := decide_eq_true h0
    (have zF := an hm (an e1 (an h0d (an e2 e4))); (refine rF75_0 ?_ <;> repeat (refine dr ?_; refine rF75_0 ?_)) <;> first | exact nop | clear zF)
    refine callC l1 ?_
    ((refine go0 ?_ <;> repeat (refine dr ?_; refine go0 ?_)) <;> try exact nop)
    refine callC td ?_
    ((refine go0 ?_ <;> repeat (refine dr ?_; refine go0 ?_)) <;> try exact nop)
    refine callC l2 ?_
    subst hM
    ((refine rF75_1 ?_ <;> repeat (refine dr ?_; refine rF75_1 ?_)) <;> try exact nop)
  simp only [if_neg h0] at hM
  have hm0 : 1 ≤ m.to := by omega
  obtain ⟨j, hj⟩ : ∃ j : Nat, m.to - 1 = j := ⟨(m.to - 1).toNat, by omega⟩
  rw [hj, Int.toNat_natCast] at hM
  obtain ⟨u, hu⟩ := ex_get (show j < w.up.length by omega)
  obtain ⟨s, hs⟩ := ex_get (show j < w.ss.length by omega)
  rw [hu, hs] at hM
  by_cases h1 : m.fr = 0
  rotate_left
  · have hM : M = { w with fl := rmAt w.fl k } := by
      rw [hM]
      cases u <;> simp [h1]
    subst hM
    (have zF := an hm (an e1 (an h0 (an h1 (an e2 e4)))); (refine rF75_0 ?_ <;> repeat (refine dr ?_; refine rF75_0 ?_)) <;> first | exact nop | clear zF)
  cases u with
  | false =>
    simp only at hM
    subst hM
    (have zF := an hm (an e1 (an h0 (an h1 (an e2 (an e4 (an hj hu)))))); (refine rF75_0 ?_ <;> repeat (refine dr ?_; refine rF75_0 ?_)) <;> first | exact nop | clear zF)
  | true =>
    simp only [if_pos h1] at hM
    have hso := hw.2.2.1.2 s (List.mem_of_getElem? hs)
    (have zF := an hm (an e1 (an h0 (an h1 (an e2 (an e4 (an hj (an hu hs))))))); (refine rF75_0 ?_ <;> repeat (refine dr ?_; refine rF75_0 ?_)) <;> first | exact nop | clear zF)
    refine callC (l4At s m.sum hso) ?_
    have hx : okWorld { w with fl := rmAt w.fl k } := ⟨hw.1, hw.2.1, hw.2.2.1, ⟨by show (rmAt w.fl k).length ≤ _; omega, fun x hx => hw.2.2.2.2 x (rm_mem hx)⟩⟩
    have hao : okMessage (ansM s m) := by
      have := msgB_up (ans_ok (n := w.f.Q.length) (g s (List.mem_of_getElem? hs)).1 (i m (List.mem_of_getElem? hm)) (by omega))
      exact ⟨by show _ ≤ 2097152; omega, by show _ ≤ 2097152; omega⟩
    have hd := l8Send _ _ hx hao
    have hso2 := send_ok hx hao
    rw [← hM] at hd hso2
    have b1 := hso2.1.2.1.1.1
    have b2 := hso2.1.2.1.2.1
    have b3 := hso2.1.2.2.1
    have b4 := hso2.2.1.1
    have b5 := hso2.2.2.1.1
    have b6 := hso2.2.2.2.1
    clear hM
    by_cases hat : 0 ≤ atI s.w m.sum s.I
    · obtain ⟨x, y, h2, h3, _⟩ := at_get hat
      have e9 : ansM s m = ⟨m.to, 0, m.sum, true, y.t⟩ := by unfold ansM; rw [if_pos hat, textAt_some h2 h3]
      rw [e9] at hd
      rw [h2]
      have hxl := (List.getElem?_eq_some_iff.1 h3).1
      (have zF := an h3 hs; (refine go0 ?_ <;> repeat (refine dr ?_; refine go0 ?_)) <;> first | exact nop | clear zF)
      refine callC hd ?_
      ((refine go0 ?_ <;> repeat (refine dr ?_; refine go0 ?_)) <;> try exact nop)
    · have e9 : ansM s m = ⟨m.to, 0, m.sum, false, em⟩ := by unfold ansM; rw [if_neg hat]
      rw [e9] at hd
      (have zF := hat; (refine go0 ?_ <;> repeat (refine dr ?_; refine go0 ?_)) <;> first | exact nop | clear zF)
      refine callC hd ?_
      ((refine go0 ?_ <;> repeat (refine dr ?_; refine go0 ?_)) <;> try exact nop)
end Go.Proofs.YtkkmgjhfjhcdmaaGreatDoor.Mx

namespace Go.Proofs.YtkkmgjhfjhcdmaaGreatDoor.Mx
open Go Go.RowKit Go.Proofs
theorem rF76_0 {p q : Prop} (k : q) (h : p = q := by conv => lhs; simp -dsimp (disch := first | omega | (simp only [zF, seg_tk, seg_dr, wr_id, LR] <;> omega) | fail) only [push_cast, zF, seg_tk, seg_dr, wr_id, simprocAttr, -Nat.reduceSubDiff]) : p := h.mpr k
theorem rF76_1 {p q : Prop} (k : q) (h : p = q := by conv => lhs; simp -dsimp (disch := first | omega | (simp only [zF, set_bool, wr_id, LR] <;> omega) | fail) only [push_cast, zF, set_bool, wr_id, simprocAttr, -Nat.reduceSubDiff]) : p := h.mpr k
theorem rF76_2 {p q : Prop} (k : q) (h : p = q := by conv => lhs; simp -dsimp (disch := first | omega | (simp only [zF, wr_id, seg_tk, seg_dr, List.getElem?_set_self, List.set_set, List.getD_eq_getElem?_getD, LR] <;> omega) | fail) only [push_cast, zF, wr_id, seg_tk, seg_dr, List.getElem?_set_self, List.set_set, List.getD_eq_getElem?_getD, simprocAttr, -Nat.reduceSubDiff]) : p := h.mpr k
theorem inB_yes {a lo hi : Int} (h : inB a lo hi = true) : lo ≤ a ∧ a ≤ hi := of_decide_eq_true h
theorem inB_no {a lo hi : Int} (h : inB a lo hi = false) : ¬ (lo ≤ a ∧ a ≤ hi) := of_decide_eq_false h
theorem bring_none {w : World} {k : Nat} (h : w.fl.length ≤ k) : bringW w k = w := by unfold bringW; rw [List.getElem?_eq_none h]
theorem set_store (S : List Store) (k : Nat) (s : Store) : (S.map (storeC true)).set k [.sc (.int .i64 s.w), .sc (.int .i64 s.r), .sl true 2 (s.I.map (itemC true)), .sl true 1 (s.P.map strR)] = (S.set k s).map (storeC true) := by
  rw [List.map_set]; rfl
theorem set_bool (S : List Bool) (k : Nat) (b : Bool) : (S.map boolR).set k [.sc (.bool b)] = (S.set k b).map boolR := by
  rw [List.map_set]; rfl
theorem okW_b {w : World} (h : okWorld w) : w.f.st.I.length ≤ 2097152 ∧ w.f.st.P.length ≤ 2097152 ∧ w.f.Q.length ≤ 2097152 ∧ w.up.length ≤ 2097152 ∧ w.ss.length ≤ 2097152 ∧ w.fl.length ≤ 2097152 :=
  ⟨h.1.2.1.1.1, h.1.2.1.2.1, h.1.2.2.1, h.2.1.1, h.2.2.1.1, h.2.2.2.1⟩
theorem tick_okW {w : World} (hw : okWorld w) (hv : validF w.f = true) : okWorld (tickW w) := by
  obtain ⟨t1, t2⟩ := ftick_ok hw.1 (validF_up hv).2.2.2.1.2
  unfold tickW
  exact sends_ok (w := { w with f := (ftickF w.f).1 }) ⟨t1, hw.2⟩ t2.2
theorem out_okW {w : World} (k : Nat) (hw : okWorld w) : okWorld { w with fl := rmAt w.fl k } :=
  ⟨hw.1, hw.2.1, hw.2.2.1, Nat.le_trans (rm_le w.fl k) hw.2.2.2.1, fun x hx => hw.2.2.2.2 x (rm_mem hx)⟩
theorem ans_okM {s : Store} {m : Message} (hs : okStore s) (hm : okMessage m) : okMessage (ansM s m) := by
  unfold ansM
  split
  · exact ⟨hm.1, textAt_sz hs _⟩
  · exact ⟨hm.1, by show em.size ≤ 2097152; decide⟩
theorem recv_okW {w : World} {m : Message} (hw : okWorld w) (hm : okMessage m) : okWorld (recvW w m) := by
  unfold recvW
  split
  · exact ⟨ftake_ok hw.1 hm, hw.2⟩
  · split
    · rename_i s _ hs
      split
      · exact send_ok hw (ans_okM (hw.2.2.1.2 s (List.mem_of_getElem? hs)) hm)
      · exact hw
    · exact hw
theorem bring_okW {w : World} (k : Nat) (hw : okWorld w) : okWorld (bringW w k) := by
  unfold bringW
  split
  · exact hw
  · rename_i m hm
    exact recv_okW (out_okW k hw) (hw.2.2.2.2 m (List.mem_of_getElem? hm))
theorem okL_set2 {α : Type} {ok : α → Prop} {l : List α} {x : α} {i : Nat} (h : okL ok l) (hx : ok x) : okL ok (l.set i x) :=
  ⟨by rw [List.length_set]; exact h.1, fun a ha => by
    rcases List.mem_or_eq_of_mem_set ha with q | q
    · exact h.2 a q
    · rw [q]; exact hx⟩
theorem drop_okW {w : World} (k : Nat) (b : Int) (hw : okWorld w) : okWorld (dropW w k b) := by
  unfold dropW
  split
  · exact hw
  · rename_i s hs
    split
    · have hso := hw.2.2.1.2 s (List.mem_of_getElem? hs)
      exact ⟨hw.1, hw.2.1, okL_set2 hw.2.2.1 ⟨⟨Nat.le_trans (rm_le s.I b.toNat) hso.1.1, fun x hx => hso.1.2 x (rm_mem hx)⟩, hso.2⟩, hw.2.2.2⟩
    · exact hw
theorem do_okW {w : World} {e : Evt} (hw : okWorld w) (hv : goodW w) (he : okEvt e) : okWorld (doW w e) := by
  unfold doW
  split
  · exact tick_okW hw hv.1
  split
  · split
    · exact bring_okW _ hw
    · exact hw
  split
  · split
    · split
      · exact hw
      · rename_i m hm
        exact send_ok hw (hw.2.2.2.2 m (List.mem_of_getElem? hm))
    · exact hw
  split
  · split
    · exact out_okW _ hw
    · exact hw
  split
  · split
    · exact send_ok hw he
    · exact hw
  split
  · split
    · exact ⟨hw.1, okL_set2 hw.2.1 trivial, hw.2.2⟩
    · exact hw
  split
  · split
    · exact ⟨hw.1, okL_set2 hw.2.1 trivial, hw.2.2⟩
    · exact hw
  split
  · split
    · exact drop_okW _ _ hw
    · exact hw
  · exact hw
def E147 : Env := { T := T0, kp := look [(0, [0, 1]), (1, [2, 3, 4]), (2, [2, 3, 4, 5]), (3, [2, 3, 4, 5, 6]), (4, [2, 3, 4, 5, 6, 23]), (5, [2, 4]), (6, [2, 3, 4, 5, 6, 23]), (7, [2, 3, 4, 5]), (8, [2, 3, 4]), (9, [2, 3, 4, 5, 6, 23]), (10, [2, 3, 4, 5]), (11, [2, 3, 4]), (12, [2, 3, 4, 5, 6, 23]), (13, [2, 3, 4, 5]), (14, [2, 3, 4]), (15, [2, 3, 4, 6, 23]), (16, [2, 3, 4]), (17, [2, 4, 7]), (18, [2, 4, 7]), (19, [2, 3, 4, 6, 23]), (20, [2, 3, 4, 6, 23]), (21, [2, 3, 4, 6]), (22, [2, 3, 4]), (23, [2, 3, 4, 6, 23]), (24, [2, 3, 4, 6]), (25, [2, 3, 4]), (26, [2, 3, 4, 8]), (27, [2, 3, 4, 8]), (28, [2, 4])], dp := look2 [(11, [[], [], [1], [], [3], [1, 2, 3, 4], [1, 2, 3, 4, 5], [0, 1, 2, 3, 4, 5, 6], [0, 1, 2, 3, 4, 5, 6, 7]]), (14, [[], [], [1], [], [3], [1, 2, 3, 4], [0, 1, 2, 3, 4, 5], [], [7], [], [9], [9, 10], [7, 8, 9, 10, 11], [0, 1, 2, 3, 4, 5, 6, 7, 8, 9, 10, 11, 12], [0, 1, 2, 3, 4, 5, 6, 7, 8, 9, 10, 11, 12, 13], [0, 1, 2, 3, 4, 5, 6, 7, 8, 9, 10, 11, 12, 13, 14]]), (24, [[], [0], [0, 1], [0, 1, 2], [0, 1], [0, 1, 4], [0, 1], [0, 1, 6], [0, 1, 6, 7], [0, 1, 4, 5, 6, 7, 8], [0, 1, 4, 5, 6, 7, 8, 9], [0, 1, 4, 5, 6, 7, 8, 9, 10], [0, 1, 4, 5, 6, 7, 8, 9, 10, 11], [0, 1, 4, 5, 6, 7, 8, 9, 10, 11, 12], [0, 1, 2, 3, 4, 5, 6, 7, 8, 9, 10, 11, 12, 13], [0, 1, 2, 3, 4, 5, 6, 7, 8, 9, 10, 11, 12, 13, 14]]), (26, [[], [], [1], [], [3], [1, 2, 3, 4], [0, 1, 2, 3, 4, 5], [], [7], [], [9], [9, 10], [7, 8, 9, 10, 11], [0, 1, 2, 3, 4, 5, 6, 7, 8, 9, 10, 11, 12], [0, 1, 2, 3, 4, 5, 6, 7, 8, 9, 10, 11, 12, 13], [0, 1, 2, 3, 4, 5, 6, 7, 8, 9, 10, 11, 12, 13, 14]])], fz := look [(26, [8])], md := look3 [(5, 1, [2, 0]), (8, 3, [2, 0]), (11, 7, [2, 0]), (18, 2, [2, 0])] }
attribute [local push_cast] E147
set_option maxRecDepth 20000 in
set_option maxHeartbeats 8000000 in
theorem l8Do (w : World) (e : Evt) (hw : okWorld w) (hv : goodW w) (he : okEvt e) : Does Tryz.prog 147 [.ag (worldC true w), .ag (evtC false e)] (.ag (worldC true (doW w e)), []) := by
  refine does_of (E := E147) (rs := [.cell 4 125]) (lent := []) tOk rfl Tryz.func147 rfl (by decide) rfl rfl (Nat.le_of_ble_eq_true rfl) (Nat.le_of_ble_eq_true rfl) ?_
  have hz := okW_b (do_okW hw hv he)
  obtain ⟨M, hM⟩ : ∃ M, M = doW w e := ⟨_, rfl⟩
  rw [← hM] at hz ⊢
  unfold doW at hM
  obtain ⟨z1, z2, z3, z4, z5, z6⟩ := hz
  obtain ⟨a, b, c, d, g, i⟩ := id hv
  have hq : w.f.Q.length ≤ 5 := (validF_up a).2.2.2.1.2
  obtain ⟨y1, y2, y3, y4, y5, y6⟩ := okW_b hw
  ((refine go1 ?_ <;> repeat (refine dr ?_; refine go1 ?_)) <;> try exact nop)
  refine callC (l1In ..) ?_
  ((refine go0 ?_ <;> repeat (refine dr ?_; refine go0 ?_)) <;> try exact nop)
  refine callC (l1In ..) ?_
  by_cases k1 : e.k = 1
  · rw [if_pos k1] at hM
    have hd := l8Tick w hw a
    rw [← hM] at hd
    (have zF := k1; (refine go0 ?_ <;> repeat (refine dr ?_; refine go0 ?_)) <;> first | exact nop | clear zF)
    refine callC hd ?_
    ((refine go0 ?_ <;> repeat (refine dr ?_; refine go0 ?_)) <;> try exact nop)
  rw [if_neg k1] at hM
  by_cases k2 : e.k = 2
  · rw [if_pos k2] at hM
    cases ht : inB e.a 0 ((w.fl.length : Int) - 1) with
    | false =>
      have hn := inB_no ht
      have hM : M = w := by
        rw [hM]
        split
        · rw [bring_none (by omega)]
        · rfl
      subst hM
      (have zF := k2; (refine go0 ?_ <;> repeat (refine dr ?_; refine go0 ?_)) <;> first | exact nop | clear zF)
    | true =>
      have hy := inB_yes ht
      obtain ⟨k, hk⟩ : ∃ k : Nat, e.a = k := ⟨e.a.toNat, by omega⟩
      rw [if_pos hy.1, hk, Int.toNat_natCast] at hM
      have hd := l8Bring w k hw hv (by omega)
      rw [← hM] at hd
      (have zF := an k2 hk; (refine go0 ?_ <;> repeat (refine dr ?_; refine go0 ?_)) <;> first | exact nop | clear zF)
      refine callC hd ?_
      ((refine go0 ?_ <;> repeat (refine dr ?_; refine go0 ?_)) <;> try exact nop)
  rw [if_neg k2] at hM
  by_cases k3 : e.k = 3
  · rw [if_pos k3] at hM
    cases ht : inB e.a 0 ((w.fl.length : Int) - 1) with
    | false =>
      have hn := inB_no ht
      have hM : M = w := by
        rw [hM]
        split
        · rw [List.getElem?_eq_none (by omega)]
        · rfl
      subst hM
      (have zF := k3; (refine go0 ?_ <;> repeat (refine dr ?_; refine go0 ?_)) <;> first | exact nop | clear zF)
    | true =>
      have hy := inB_yes ht
      obtain ⟨k, hk⟩ : ∃ k : Nat, e.a = k := ⟨e.a.toNat, by omega⟩
      obtain ⟨m, hm⟩ := ex_get (show k < w.fl.length by omega)
      rw [if_pos hy.1, hk, Int.toNat_natCast, hm] at hM
      have hd := l8Send w m hw (hw.2.2.2.2 m (List.mem_of_getElem? hm))
      simp only at hM
      rw [← hM] at hd
      (have zF := an k3 (an hk hm); (refine go0 ?_ <;> repeat (refine dr ?_; refine go0 ?_)) <;> first | exact nop | clear zF)
      refine callC hd ?_
      ((refine go0 ?_ <;> repeat (refine dr ?_; refine go0 ?_)) <;> try exact nop)
  rw [if_neg k3] at hM
  by_cases k4 : e.k = 4
  · rw [if_pos k4] at hM
    cases ht : inB e.a 0 ((w.fl.length : Int) - 1) with
    | false =>
      have hn := inB_no ht
      rw [if_neg (by omega)] at hM
      subst hM
      (have zF := k4; (refine go0 ?_ <;> repeat (refine dr ?_; refine go0 ?_)) <;> first | exact nop | clear zF)
    | true =>
      have hy := inB_yes ht
      obtain ⟨k, hk⟩ : ∃ k : Nat, e.a = k := ⟨e.a.toNat, by omega⟩
      rw [if_pos (by omega), hk, Int.toNat_natCast] at hM
      have hrl := rmAt_len (l := w.fl) (i := k) (by omega)
      have e1 : ((k : Int) + 1).toNat = k + 1 := by omega
      have e2 : k + (w.fl.drop (k + 1)).length = (rmAt w.fl k).length := by rw [List.length_drop]; omega
      have e4 : (w.fl.take k).map (messageC true) ++ (w.fl.drop (k + 1)).map (messageC true) = (rmAt w.fl k).map (messageC true) := by unfold rmAt; rw [List.map_append]
      subst hM
      (have zF := an k4 (an hk (an e1 (an e2 e4))); (refine rF76_0 ?_ <;> repeat (refine dr ?_; refine rF76_0 ?_)) <;> first | exact nop | clear zF)
  rw [if_neg k4] at hM
  by_cases k5 : e.k = 5
  · rw [if_pos k5] at hM
    have hd := l8Send w e.m hw he
    (have zF := k5; (refine go0 ?_ <;> repeat (refine dr ?_; refine go0 ?_)) <;> first | exact nop | clear zF)
    refine callC (l1In ..) ?_
    by_cases s2 : e.m.to = 0
    rotate_left
    · rw [if_neg (by unfold sayB; simp [s2])] at hM
      subst hM
      cases s1 : inB e.m.fr 1 (M.up.length : Int) <;> ((have zF := s2; (refine go0 ?_ <;> repeat (refine dr ?_; refine go0 ?_)) <;> first | exact nop | clear zF))
    cases s1 : inB e.m.fr 1 (w.up.length : Int) with
    | false =>
      rw [if_neg (by unfold sayB; simp [s1])] at hM
      subst hM
      (have zF := s2; (refine go0 ?_ <;> repeat (refine dr ?_; refine go0 ?_)) <;> first | exact nop | clear zF)
    | true =>
    have s2d := decide_eq_true s2
    by_cases s3 : e.m.sum.size ≤ 8
    rotate_left
    · rw [if_neg (by unfold sayB; simp [s3])] at hM
      subst hM
      (have zF := an s2d s3; (refine go0 ?_ <;> repeat (refine dr ?_; refine go0 ?_)) <;> first | exact nop | clear zF)
    by_cases s4 : e.m.tx.size ≤ 7000
    rotate_left
    · rw [if_neg (by unfold sayB; simp [s4])] at hM
      subst hM
      (have zF := an s2d (an s3 s4); (refine go0 ?_ <;> repeat (refine dr ?_; refine go0 ?_)) <;> first | exact nop | clear zF)
    rw [if_pos (by unfold sayB; simp [s1, s2, s3, s4])] at hM
    rw [← hM] at hd
    (have zF := an s2d (an s3 s4); (refine go0 ?_ <;> repeat (refine dr ?_; refine go0 ?_)) <;> first | exact nop | clear zF)
    refine callC hd ?_
    ((refine go0 ?_ <;> repeat (refine dr ?_; refine go0 ?_)) <;> try exact nop)
  rw [if_neg k5] at hM
  by_cases k6 : e.k = 6
  · rw [if_pos k6] at hM
    cases hp : inB e.a 1 (w.up.length : Int) with
    | false =>
      have hn := inB_no hp
      rw [if_neg (by omega)] at hM
      subst hM
      (have zF := k6; (refine go0 ?_ <;> repeat (refine dr ?_; refine go0 ?_)) <;> first | exact nop | clear zF)
    | true =>
      have hy := inB_yes hp
      obtain ⟨k, hk⟩ : ∃ k : Nat, e.a - 1 = k := ⟨(e.a - 1).toNat, by omega⟩
      rw [if_pos (by omega), hk, Int.toNat_natCast] at hM
      obtain ⟨u, hu⟩ := ex_get (show k < w.up.length by omega)
      subst hM
      (have zF := an k6 (an hk hu); (refine rF76_1 ?_ <;> repeat (refine dr ?_; refine rF76_1 ?_)) <;> first | exact nop | clear zF)
  rw [if_neg k6] at hM
  by_cases k7 : e.k = 7
  · rw [if_pos k7] at hM
    cases hp : inB e.a 1 (w.up.length : Int) with
    | false =>
      have hn := inB_no hp
      rw [if_neg (by omega)] at hM
      subst hM
      (have zF := k7; (refine go0 ?_ <;> repeat (refine dr ?_; refine go0 ?_)) <;> first | exact nop | clear zF)
    | true =>
      have hy := inB_yes hp
      obtain ⟨k, hk⟩ : ∃ k : Nat, e.a - 1 = k := ⟨(e.a - 1).toNat, by omega⟩
      rw [if_pos (by omega), hk, Int.toNat_natCast] at hM
      obtain ⟨u, hu⟩ := ex_get (show k < w.up.length by omega)
      subst hM
      (have zF := an k7 (an hk hu); (refine rF76_1 ?_ <;> repeat (refine dr ?_; refine rF76_1 ?_)) <;> first | exact nop | clear zF)
  rw [if_neg k7] at hM
  by_cases k8 : e.k = 8
  rotate_left
  · rw [if_neg k8] at hM
    subst hM
    (have zF := an k1 (an k2 (an k3 (an k4 (an k5 (an k6 (an k7 k8)))))); (refine go0 ?_ <;> repeat (refine dr ?_; refine go0 ?_)) <;> first | exact nop | clear zF)
  rw [if_pos k8] at hM
  cases hp : inB e.a 1 (w.up.length : Int) with
  | false =>
    have hn := inB_no hp
    have hM : M = w := by
      rw [hM]
      split
      · unfold dropW
        rw [List.getElem?_eq_none (by omega)]
      · rfl
    subst hM
    (have zF := k8; (refine go0 ?_ <;> repeat (refine dr ?_; refine go0 ?_)) <;> first | exact nop | clear zF)
  | true =>
  have hy := inB_yes hp
  obtain ⟨k, hk⟩ : ∃ k : Nat, e.a - 1 = k := ⟨(e.a - 1).toNat, by omega⟩
  obtain ⟨s, hs⟩ := ex_get (show k < w.ss.length by omega)
  have hso := hw.2.2.1.2 s (List.mem_of_getElem? hs)
  have hsl := hso.1.1
  have hsp := hso.2.1
  rw [if_pos hy.1, hk, Int.toNat_natCast] at hM
  unfold dropW at hM
  rw [hs] at hM
  simp only at hM
  (have zF := an k8 (an hk hs); (refine go1 ?_ <;> repeat (refine dr ?_; refine go1 ?_)) <;> first | exact nop | clear zF)
  refine callC (l1In ..) ?_
  cases hb : inB e.b 0 ((s.I.length : Int) - 1) with
  | false =>
    have hn := inB_no hb
    rw [if_neg (by omega)] at hM
    subst hM
    ((refine go0 ?_ <;> repeat (refine dr ?_; refine go0 ?_)) <;> try exact nop)
  | true =>
  have hyb := inB_yes hb
  obtain ⟨j, hj⟩ : ∃ j : Nat, e.b = j := ⟨e.b.toNat, by omega⟩
  rw [if_pos (by omega), hj, Int.toNat_natCast] at hM
  have hrl := rmAt_len (l := s.I) (i := j) (by omega)
  have e1 : ((j : Int) + 1).toNat = j + 1 := by omega
  have e2 : j + (s.I.drop (j + 1)).length = (rmAt s.I j).length := by rw [List.length_drop]; omega
  have e4 : (s.I.take j).map (itemC true) ++ (s.I.drop (j + 1)).map (itemC true) = (rmAt s.I j).map (itemC true) := by unfold rmAt; rw [List.map_append]
  have hst := set_store w.ss k { s with I := rmAt s.I j }
  simp only at hst
  subst hM
  (have zF := an hk (an hs (an hj (an e1 (an e2 (an e4 hst))))); (refine rF76_2 ?_ <;> repeat (refine dr ?_; refine rF76_2 ?_)) <;> first | exact nop | clear zF)
end Go.Proofs.YtkkmgjhfjhcdmaaGreatDoor.Mx

namespace Go.Proofs.YtkkmgjhfjhcdmaaGreatDoor.Mx
open Go Go.RowKit Go.Proofs
theorem rF77_0 {p q : Prop} (k : q) (h : p = q := by conv => lhs; simp -dsimp (disch := first | omega | (simp only [zF, List.take_length, LR] <;> omega) | fail) only [push_cast, zF, List.take_length, simprocAttr, -Nat.reduceSubDiff]) : p := h.mpr k
theorem rF77_1 {p q : Prop} (k : q) (h : p = q := by conv => lhs; simp -dsimp (disch := first | omega | (simp only [zF, List.take_zero, LR] <;> omega) | fail) only [push_cast, zF, List.take_zero, simprocAttr, -Nat.reduceSubDiff]) : p := h.mpr k
theorem rF77_2 {p q : Prop} (k : q) (h : p = q := by conv => lhs; simp -dsimp (disch := first | omega | (simp only [zF, wr_id, List.map_append, LR] <;> omega) | fail) only [push_cast, zF, wr_id, List.map_append, simprocAttr, -Nat.reduceSubDiff]) : p := h.mpr k
def E149 : Env := { T := T0, kp := look [(0, [0]), (1, [1, 2]), (2, [1, 2, 3]), (3, [1, 2, 3, 4]), (4, [1, 2, 3, 4]), (5, [1, 2, 3, 4]), (6, [2, 3])], dp := look2 [(1, [[], [0], [0, 1], [], [], [4], [0, 1, 2, 3, 4, 5], [], [], [8], [0, 1, 2, 3, 4, 5, 6, 7, 8, 9], [], [11], [0, 1, 2, 3, 4, 5, 6, 7, 8, 9, 10, 11, 12], [], [0, 1, 2, 3, 4, 5, 6, 7, 8, 9, 10, 11, 12, 13, 14]]), (5, [[], [0], [], [2], [], [2, 3, 4], [2, 3, 4, 5], [2, 3, 4, 5, 6], [2, 3, 4, 5, 6, 7], [0, 1, 2, 3, 4, 5, 6, 7, 8], [0, 1, 2, 3, 4, 5, 6, 7, 8, 9], [0, 1, 2, 3, 4, 5, 6, 7, 8, 9, 10]])] }
attribute [local push_cast] E149
set_option maxRecDepth 20000 in
set_option maxHeartbeats 4000000 in
theorem l8Copy (w : World) (hw : okWorld w) : Does Tryz.prog 149 [.ag (worldC false w)] (.ag (worldC true w), []) := by
  refine does_of (E := E149) (rs := [.cell 2 125]) (lent := []) tOk rfl Tryz.func149 rfl (by decide) rfl rfl (Nat.le_of_ble_eq_true rfl) (Nat.le_of_ble_eq_true rfl) ?_
  obtain ⟨C, hC⟩ : ∃ C, C = worldC true w := ⟨_, rfl⟩
  rw [← hC]
  obtain ⟨y1, y2, y3, y4, y5, y6⟩ := okW_b hw
  ((refine go0 ?_ <;> repeat (refine dr ?_; refine go0 ?_)) <;> try exact nop)
  refine callC (l7Copy w.f hw.1) ?_
  ((refine go0 ?_ <;> repeat (refine dr ?_; refine go0 ?_)) <;> try exact nop)
  refine loop_ind (α := Nat) (fun i => i ≤ w.ss.length) (fun i => ⟨[(1, .pt 1 0 0), (2, .pt 2 0 0), (3, .pt 9 0 0), (4, .sc (.int .i64 i))],
    [(1, .bx (worldC false w)), (2, .bx [.sc (.string ⟨#[]⟩), .sc (.int .i64 0), .sc (.bool false), .sc (.int .i64 0), .sc (.int .i64 0), .ow 3 0 0, .ow 4 0 0, .ow 5 0 0, .ow 6 0 0, .ow 7 0 0, .ow 8 0 0, .sc (.int .i64 0)]), (3, .ar 2 0 []), (4, .ar 1 0 []), (5, .ar 5 0 []), (6, .ar 1 0 []), (7, .ar 4 0 []), (8, .ar 5 0 []),
     (9, .bx [.sc (.string w.f.nm), .sc (.int .i64 w.f.now), .sc (.bool w.f.full), .sc (.int .i64 w.f.st.w), .sc (.int .i64 w.f.st.r), .ow 10 0 w.f.st.I.length, .ow 11 0 w.f.st.P.length, .ow 12 0 w.f.Q.length, .ow 13 0 w.up.length, .ow 14 0 i, .ow 15 0 w.fl.length, .sc (.int .i64 w.wa)]),
     (10, .ar 2 0 (w.f.st.I.map (itemC true))), (11, .ar 1 0 (w.f.st.P.map strR)), (12, .ar 5 0 (w.f.Q.map (peerC true))), (13, .ar 1 0 (w.up.map boolR)), (14, .ar 4 0 ((w.ss.take i).map (storeC true))), (15, .ar 5 0 (w.fl.map (messageC false)))], 16⟩) (fun i => w.ss.length - i) 0 (Nat.zero_le _) ?_ ?_
  · ((refine rF77_1 ?_) <;> try exact nop)
  intro i hi ih
  by_cases h : i < w.ss.length
  · obtain ⟨s, hx⟩ := ex_get h
    have hso := hw.2.2.1.2 s (List.mem_of_getElem? hx)
    have hq := len_take_le w.ss hi
    have hst := take_step hx
    (have zF := an hx hq; (refine go0 ?_ <;> repeat (refine dr ?_; refine go0 ?_)) <;> first | exact nop | clear zF)
    refine callC (l4Copy s hso) ?_
    (have zF := an hx hq; (refine go0 ?_ <;> repeat (refine dr ?_; refine go0 ?_)) <;> first | exact nop | clear zF)
    refine ih (i + 1) _ (by omega) h ?_
    (have zF := hst; (refine rF77_2 ?_) <;> first | exact nop | clear zF)
  · have ht : w.ss.take i = w.ss := List.take_of_length_le (by omega)
    have hi : i = w.ss.length := by omega
    have hm : w.fl.map (messageC true) = w.fl.map (messageC false) := rfl
    (have zF := an ht (an hi (an hC hm)); (refine rF77_0 ?_ <;> repeat (refine dr ?_; refine rF77_0 ?_)) <;> first | exact nop | clear zF)
end Go.Proofs.YtkkmgjhfjhcdmaaGreatDoor.Mx

namespace Go.Proofs.YtkkmgjhfjhcdmaaGreatDoor.Mx
open Go Go.RowKit
theorem lies_dec : ∀ Q : List Peer, liesQ (Q.map decP) = liesQ Q
  | [] => rfl
  | p :: r => by
    have : (decP p).lies = p.lies := by unfold decP; split <;> rfl
    rw [List.map_cons, liesQ, liesQ, lies_dec r, this]
theorem lies_ask (now : Int) (L : List Str) (q : List Peer × List Message) (k : Nat) : liesQ (ask1 now L q k).1 = liesQ q.1 := by
  unfold ask1
  split
  · rfl
  · rename_i p hp
    split
    · rfl
    · show liesQ (q.1.set _ _) = _
      rw [lies_set hp]
      show liesQ q.1 - p.lies + p.lies = _
      omega
theorem lies_fold (now : Int) (L : List Str) : ∀ (D : List Nat) (q : List Peer × List Message), liesQ (D.foldl (ask1 now L) q).1 = liesQ q.1
  | [], _ => rfl
  | k :: r, q => by rw [List.foldl_cons, lies_fold now L r, lies_ask]
theorem lies_tick (f : Fetch) : liesQ (tickF f).1.Q = liesQ f.Q := by
  unfold tickF
  split
  · rfl
  · split
    · exact lies_dec _
    · have hr := runT_sort (f.now + 1) (lacksF f.st f.nm) (f.Q.map decP)
      rw [List.length_map] at hr
      rw [hr]
      exact (lies_fold _ _ _ _).trans (lies_dec _)
theorem good_lies {w : World} (h : goodW w) : 0 ≤ liesQ w.f.Q ∧ liesQ w.f.Q ≤ 15 := by
  have h1 := lies_rng (lies_of h.1)
  have h2 := (validF_up h.1).2.2.2.1.2
  omega
def wasteW (w : World) : Prop := w.wa = liesQ w.f.Q
theorem send_waste {w : World} {m : Message} (h : wasteW w) : wasteW (sendW w m) := by
  obtain ⟨a, _, _, b⟩ := send_same w m
  unfold wasteW
  rw [a, b]
  exact h
theorem tick_waste {w : World} (hg : goodW w) (h : wasteW w) : wasteW (tickW w) := by
  obtain ⟨a, _, _, b⟩ := sends_same (ftickF w.f).2 { w with f := (ftickF w.f).1 }
  unfold wasteW tickW
  rw [a, b, ftick_of hg.1]
  show w.wa = liesQ (tickF w.f).1.Q
  rw [lies_tick]
  exact h
theorem recv_waste {w : World} {m : Message} (hg : goodW w) (h : wasteW w) : wasteW (recvW w m) := by
  have h1 := good_lies hg
  unfold recvW
  split
  · rw [ftake_of m hg.1]
    have h2 := lies_rng (lies_of (take_valid m hg.1).1)
    have h3 := (validF_up (take_valid m hg.1).1).2.2.2.1.2
    unfold wasteW at h ⊢
    show wr .i64 (w.wa + (liesQ (takeF w.f m).Q - liesQ w.f.Q)) = liesQ (takeF w.f m).Q
    rw [h, wr_id (by omega) (by omega)]
    omega
  · split
    · split
      · exact send_waste h
      · exact h
    · exact h
theorem bring_waste {w : World} (k : Nat) (hg : goodW w) (h : wasteW w) : wasteW (bringW w k) := by
  unfold bringW
  split
  · exact h
  · exact recv_waste (out_valid k hg) h
theorem do_waste {w : World} (e : Evt) (hg : goodW w) (h : wasteW w) : wasteW (doW w e) := by
  unfold doW
  split
  · exact tick_waste hg h
  split
  · split
    · exact bring_waste _ hg h
    · exact h
  split
  · split
    · split
      · exact h
      · exact send_waste h
    · exact h
  split
  · split <;> exact h
  split
  · split
    · exact send_waste h
    · exact h
  split
  · split <;> exact h
  split
  · split <;> exact h
  split
  · split
    · unfold dropW
      split
      · exact h
      · split <;> exact h
    · exact h
  · exact h
theorem newF_lies {s : Store} {n : Str} {p : Int} : liesQ (newF s n p).Q = 0 := by
  unfold newF
  split
  · have : ∀ k : Nat, liesQ (List.replicate k newPeer) = 0 := fun k => by
      induction k with
      | zero => rfl
      | succ k ih => rw [List.replicate_succ, liesQ, ih]; rfl
    exact this _
  · rfl
theorem newW_good {f : Fetch} {ss : List Store} (h : (newW f ss).up.length ≠ 0) : goodW (newW f ss) ∧ (newW f ss).wa = 0 ∧ (newW f ss).f = f := by
  unfold newW at h ⊢
  split at h
  · rename_i hc
    rw [if_pos hc]
    obtain ⟨h1, h2, h3⟩ := hc
    refine ⟨⟨h1, by show (List.replicate _ _).length = _; rw [List.length_replicate]; omega, h2, Nat.zero_le _, fun s hs => ?_, fun m hm => by cases hm⟩, rfl, rfl⟩
    have := List.all_eq_true.1 h3 s hs
    unfold storeB at this
    rw [Bool.and_eq_true] at this
    exact ⟨this.1, of_decide_eq_true this.2⟩
  · exact (h rfl).elim
end Go.Proofs.YtkkmgjhfjhcdmaaGreatDoor.Mx

namespace Go.Proofs.YtkkmgjhfjhcdmaaGreatDoor.Mx
open Go Go.RowKit Go.Proofs
theorem rF40_0 {p q : Prop} (k : q) (h : p = q := by conv => lhs; simp -dsimp (disch := first | omega | (simp only [zF, sz3, LR] <;> omega) | fail) only [push_cast, zF, sz3, simprocAttr, -Nat.reduceSubDiff]) : p := h.mpr k
def neR (r : Ans) (c : List Int) (p : Int) : Prop := ∃ (t : Str) (p' : Int), r = (.sc (.string t), [some (.pb true (rdC1 c p'))]) ∧ t.size ≤ 30000 ∧ p ≤ p' ∧ p' ≤ p + 20
def E176 : Env := { T := T0, kp := look [(0, [0, 1]), (1, [0, 1]), (2, [0, 1, 5]), (3, [0, 1, 5, 15]), (4, [0, 1, 5]), (5, [0, 1, 5, 15]), (6, [0, 1, 5]), (7, [0, 1, 5, 6]), (8, [0, 1, 5, 6]), (9, [0, 1, 5, 15]), (10, [0, 1]), (11, [0, 1, 5])], dp := look2 [(4, [[], [], [0, 1], [0, 1, 2], [], [], [4, 5], [0, 1, 2, 3, 4, 5, 6], [0, 1, 2, 3, 4, 5, 6, 7]]), (8, [[], [], [0, 1], [], [], [3, 4], [0, 1, 2, 3, 4, 5], [0, 1, 2, 3, 4, 5, 6]]), (11, [[], [0], [], [], [2, 3], [0, 1, 2, 3, 4], [0, 1, 2, 3, 4, 5]])], md := look3 [(1, 1, [1, 0]), (2, 1, [1, 0]), (6, 2, [1, 0]), (10, 2, [1]), (11, 1, [1])] }
attribute [local push_cast] E176
set_option maxRecDepth 20000 in
set_option maxHeartbeats 400000 in
theorem l2Near (c : List Int) (p : Int) (s : Str) (hc : okCode c) (hp : 0 ≤ p) (hp2 : p ≤ 9000) (hs : s.size ≤ 10000) : ∃ r, neR r c p ∧ Does Tryz.prog 176 [.pb true (rdC1 c p), .sc (.string s)] r := by
  refine does_ex (E := E176) (rs := [.tmp 4]) (lent := [true]) tOk rfl Tryz.func176 rfl (by decide) rfl rfl (Nat.le_of_ble_eq_true rfl) (Nat.le_of_ble_eq_true rfl) ?_
  obtain ⟨z0, z1⟩ := pickF_nn hc p 256 hp (by omega)
  have z1 := z1 (by omega)
  ((refine go0 ?_ <;> repeat (refine dx ?_; refine go0 ?_)) <;> try exact nop)
  refine ex_call (pick c p 256 hc hp (by omega) (by omega)) ?_
  obtain ⟨N, hN⟩ := nat_of' z0
  rw [hN] at z1 ⊢
  obtain ⟨A, hA⟩ : ∃ A : Nat, A = N * (s.size + 1) / 256 := ⟨_, rfl⟩
  have hm : N * (s.size + 1) ≤ 255 * (s.size + 1) := Nat.mul_le_mul_right _ (by omega)
  have hA2 : A ≤ s.size := by rw [hA]; omega
  have e0 : (N : Int) * ((s.size : Int) + 1) = ((N * (s.size + 1) : Nat) : Int) := by rw [Int.natCast_mul]; rfl
  have e1 : ((N : Int) * ((s.size : Int) + 1)).tdiv 256 = (A : Int) := by rw [e0, hA]; rfl
  have e2 : wr .i64 ((N : Int) * ((s.size : Int) + 1)) = (N : Int) * ((s.size : Int) + 1) := by rw [e0]; exact wr_id (by omega) (by omega)
  clear e0 hm hA hN
  (have zF := an e2 e1; (refine go1 ?_ <;> repeat (refine dx ?_; refine go1 ?_)) <;> first | exact nop | clear zF)
  obtain ⟨y0, y1⟩ := pickF_nn hc (p + 1) 4 (by omega) (by omega)
  have y1 := y1 (by omega)
  refine ex_call (pick c (p + 1) 4 hc (by omega) (by omega) (by omega)) ?_
  clear e1 e2
  obtain ⟨k, hk⟩ := nat_of' y0
  rw [hk] at y1 ⊢
  have t1 : ((s.size : Int) - (A : Int)).toNat = s.size - A := by omega
  have x1 : (s.extract 0 A).size ≤ 10000 := by rw [ext_size (by omega)]; omega
  have x2 : (s.extract A s.size).size ≤ 10000 := by rw [ext_size (by omega)]; omega
  have t2 : A + (s.size - A) = s.size := by omega
  by_cases k0 : k = 0
  · subst k0
    have x0 : (s.extract 0 A ++ (⟨#[110, 101, 119]⟩ : ByteArray)).size ≤ 20000 := by rw [ByteArray.size_append, sz3]; omega
    (have zF := an t1 t2; (refine rF40_0 ?_ <;> repeat (refine dx ?_; refine rF40_0 ?_)) <;> first | exact nop | clear zF)
    refine ⟨_, ⟨s.extract 0 A ++ ⟨#[110, 101, 119]⟩ ++ s.extract A s.size, p + 1 + 1, rfl, ?_, by omega, by omega⟩, rfl⟩
    rw [ByteArray.size_append, ByteArray.size_append, sz3]; omega
  by_cases k1 : k = 1
  · subst k1
    ((refine go0 ?_ <;> repeat (refine dx ?_; refine go0 ?_)) <;> try exact nop)
    obtain ⟨v0, v1⟩ := pickF_nn hc (p + 1 + 1) 20 (by omega) (by omega)
    have v1 := v1 (by omega)
    refine ex_call (pick c (p + 1 + 1) 20 hc (by omega) (by omega) (by omega)) ?_
    obtain ⟨d, hd⟩ := nat_of' v0
    rw [hd] at v1 ⊢
    by_cases hAd : A + d < s.size
    · have t3 : ((s.size : Int) - ((A : Int) + (d : Int))).toNat = s.size - (A + d) := by omega
      have t4 : A + d + (s.size - (A + d)) = s.size := by omega
      have x3 : (s.extract (A + d) s.size).size ≤ 10000 := by rw [ext_size (by omega)]; omega
      have t5 : ((A : Int) + (d : Int)).toNat = A + d := by omega
      (have zF := an hAd (an t3 (an t4 t5)); (refine go1 ?_ <;> repeat (refine dx ?_; refine go1 ?_)) <;> first | exact nop | clear zF)
      refine ⟨_, ⟨s.extract 0 A ++ s.extract (A + d) s.size, p + 1 + 1 + 1, rfl, ?_, by omega, by omega⟩, rfl⟩
      rw [ByteArray.size_append]; omega
    · (have zF := hAd; (refine go1 ?_ <;> repeat (refine dx ?_; refine go1 ?_)) <;> first | exact nop | clear zF)
      refine ex_some (l2Thing c (p + 1 + 1 + 1) hc (by omega) (by omega)) ?_
      rintro _ ⟨t, p', rfl, ht, hq1, hq2⟩
      (have zF := an t1 t2; (refine go0 ?_ <;> repeat (refine dx ?_; refine go0 ?_)) <;> first | exact nop | clear zF)
      refine ⟨_, ⟨t ++ s.extract A s.size, p', rfl, ?_, by omega, by omega⟩, rfl⟩
      rw [ByteArray.size_append]; omega
  by_cases k2 : k = 2
  · subst k2
    ((refine go0 ?_ <;> repeat (refine dx ?_; refine go0 ?_)) <;> try exact nop)
    refine ex_some (l2Thing c (p + 1 + 1) hc (by omega) (by omega)) ?_
    rintro _ ⟨t, p', rfl, ht, hq1, hq2⟩
    ((refine go0 ?_ <;> repeat (refine dx ?_; refine go0 ?_)) <;> try exact nop)
    refine ⟨_, ⟨s ++ t, p', rfl, ?_, by omega, by omega⟩, rfl⟩
    rw [ByteArray.size_append]; omega
  · (have zF := an k0 (an k1 k2); (refine go0 ?_ <;> repeat (refine dx ?_; refine go0 ?_)) <;> first | exact nop | clear zF)
    refine ex_some (l2Thing c (p + 1 + 1) hc (by omega) (by omega)) ?_
    rintro _ ⟨t, p', rfl, ht, hq1, hq2⟩
    (have zF := an t1 t2; (refine go0 ?_ <;> repeat (refine dx ?_; refine go0 ?_)) <;> first | exact nop | clear zF)
    refine ⟨_, ⟨t ++ s.extract A s.size, p', rfl, ?_, by omega, by omega⟩, rfl⟩
    rw [ByteArray.size_append]; omega
end Go.Proofs.YtkkmgjhfjhcdmaaGreatDoor.Mx

namespace Go.Proofs.YtkkmgjhfjhcdmaaGreatDoor.Mx
open Go Go.RowKit Go.Proofs
theorem rF57_0 {p q : Prop} (k : q) (h : p = q := by conv => lhs; simp -dsimp (disch := first | omega | (simp only [zF, seg_tk, wr_id, LR] <;> omega) | fail) only [push_cast, zF, seg_tk, wr_id, simprocAttr, -Nat.reduceSubDiff]) : p := h.mpr k
theorem rF57_1 {p q : Prop} (k : q) (h : p = q := by conv => lhs; simp -dsimp (disch := first | omega | (simp only [zF, seg_dr, wr_id, LR] <;> omega) | fail) only [push_cast, zF, seg_dr, wr_id, simprocAttr, -Nat.reduceSubDiff]) : p := h.mpr k
theorem rF57_2 {p q : Prop} (k : q) (h : p = q := by conv => lhs; simp -dsimp (disch := first | omega | (simp only [zF, Nat.add_zero, LR] <;> omega) | fail) only [push_cast, zF, Nat.add_zero, simprocAttr, -Nat.reduceSubDiff]) : p := h.mpr k
theorem rF57_3 {p q : Prop} (k : q) (h : p = q := by conv => lhs; simp -dsimp (disch := first | omega | (simp only [zF, Nat.sub_zero, LR] <;> omega) | fail) only [push_cast, zF, Nat.sub_zero, simprocAttr, -Nat.reduceSubDiff]) : p := h.mpr k
theorem rF57_4 {p q : Prop} (k : q) (h : p = q := by conv => lhs; simp -dsimp (disch := first | omega | (simp only [zF, wr_id, List.map_append, List.length_append, List.length_cons, List.length_nil, List.map_cons, List.map_nil, LR] <;> omega) | fail) only [push_cast, zF, wr_id, List.map_append, List.length_append, List.length_cons, List.length_nil, List.map_cons, List.map_nil, simprocAttr, -Nat.reduceSubDiff]) : p := h.mpr k
def srR (L : List Str) (r : Ans) : Prop := ∃ I : List Item, r = (.sl true 2 (I.map (itemC true)), []) ∧ I.length = L.length ∧ ∀ x ∈ I, x.t.size ≤ 10000
def E152 : Env := { T := T0, kp := look [(0, [0, 1]), (1, [0, 1]), (2, []), (3, [0, 1]), (4, [0]), (5, [0, 1]), (6, [0, 1, 5]), (7, [1, 5, 6]), (8, [1, 5, 6, 7]), (9, [1, 5, 6, 7]), (10, [1, 5, 6, 7]), (11, [1, 5, 6, 7]), (12, [1, 5, 6, 7]), (13, [1, 5, 6, 7]), (14, [7])], dp := look2 [(9, [[], [0], [0, 1], [0, 1, 2], [0, 1, 2, 3], [0, 1, 2, 3, 4], [0, 1, 2, 3, 4, 5], [0, 1, 2, 3, 4, 5, 6], [0, 1, 2, 3, 4, 5, 6, 7], [0, 1, 2, 3, 4, 5, 6, 7, 8], [0, 1, 2, 3, 4, 5, 6, 7, 8, 9], [0, 1, 2, 3, 4, 5, 6, 7, 8, 9, 10], [0, 1, 2, 3, 4, 5, 6, 7], [0, 1, 2, 3, 4, 5, 6, 7, 8, 9, 10, 11, 12], [0, 1, 2, 3, 4, 5, 6, 7], [0, 1, 2, 3, 4, 5, 6, 7, 14], [0, 1, 2, 3, 4, 5, 6, 7, 14, 15], [0, 1, 2, 3, 4, 5, 6, 7, 14, 15, 16], [0, 1, 2, 3, 4, 5, 6, 7], [0, 1, 2, 3, 4, 5, 6, 7, 8, 9, 10, 11, 12, 13, 14, 15, 16, 17, 18], [0, 1, 2, 3, 4, 5, 6, 7, 8, 9, 10, 11, 12, 13, 14, 15, 16, 17, 18, 19], [0, 1, 2, 3, 4, 5, 6, 7, 8, 9, 10, 11, 12, 13, 14, 15, 16, 17, 18, 19, 20], [0, 1, 2, 3, 4, 5, 6, 7, 8, 9, 10, 11, 12, 13, 14, 15, 16, 17, 18, 19, 20, 21]])] }
attribute [local push_cast] E152
set_option maxRecDepth 20000 in
set_option maxHeartbeats 4000000 in
theorem l4Sorted_step (L : List Str) (w : Int) (hL : L.length ≤ 2000) (hs : ∀ x ∈ L, x.size ≤ 10000)
    (IH : ∀ L' : List Str, L'.length < L.length → (∀ x ∈ L', x.size ≤ 10000) → ∃ r, srR L' r ∧ Does Tryz.prog 152 [.sl false 1 (L'.map strR), .sc (.int .i64 w)] r) :
    ∃ r, srR L r ∧ Does Tryz.prog 152 [.sl false 1 (L.map strR), .sc (.int .i64 w)] r := by
  refine does_ex (E := E152) (rs := [.tmp 4]) (lent := []) tOk rfl Tryz.func152 rfl (by decide) rfl rfl (Nat.le_of_ble_eq_true rfl) (Nat.le_of_ble_eq_true rfl) ?_
  by_cases h0 : L.length = 0
  · (have zF := h0; (refine go0 ?_ <;> repeat (refine dx ?_; refine go0 ?_)) <;> first | exact nop | clear zF)
    exact ⟨_, ⟨[], rfl, h0.symm, fun x hx => by cases hx⟩, rfl⟩
  by_cases h1 : L.length = 1
  · obtain ⟨x, hx⟩ := ex_get (show 0 < L.length by omega)
    (have zF := an h1 hx; (refine go0 ?_ <;> repeat (refine dx ?_; refine go0 ?_)) <;> first | exact nop | clear zF)
    exact ⟨_, ⟨[⟨x, 0⟩], rfl, h1.symm, fun y hy => by rw [List.mem_singleton.1 hy]; exact hs x (List.mem_of_getElem? hx)⟩, rfl⟩
  obtain ⟨k, hk⟩ : ∃ k, k = L.length / 2 := ⟨_, rfl⟩
  have d2 : (L.length : Int).tdiv 2 = (k : Int) := by rw [hk]; rfl
  have hne : (L.map strR).isEmpty = false := by cases L <;> simp at h0 ⊢
  have e1 : ((L.length : Int) - (k : Int)).toNat = L.length - k := by omega
  (have zF := an h0 (an h1 (an d2 hne)); (refine rF57_0 ?_ <;> repeat (refine dx ?_; refine rF57_0 ?_)) <;> first | exact nop | clear zF)
  refine ex_some (IH (L.take k) (by rw [List.length_take]; omega) (fun x hx => hs x (List.mem_of_mem_take hx))) ?_
  rintro _ ⟨A, rfl, hA, hAs⟩
  (have zF := an h0 (an h1 (an d2 (an hne e1))); (refine rF57_1 ?_ <;> repeat (refine dx ?_; refine rF57_1 ?_)) <;> first | exact nop | clear zF)
  refine ex_some (IH (L.drop k) (by rw [List.length_drop]; omega) (fun x hx => hs x (List.mem_of_mem_drop hx))) ?_
  rintro _ ⟨B, rfl, hB, hBs⟩
  rw [List.length_take] at hA
  rw [List.length_drop] at hB
  ((refine go0 ?_ <;> repeat (refine dx ?_; refine go0 ?_)) <;> try exact nop)
  refine ex_loop (α := Nat × Nat × List Item) (fun q => q.1 ≤ A.length ∧ q.2.1 ≤ B.length ∧ q.2.2.length = q.1 + q.2.1 ∧ ∀ x ∈ q.2.2, x.t.size ≤ 10000)
    (fun q => ⟨[(1, .sc (.int .i64 w)), (5, .ow 1 q.1 (A.length - q.1)), (6, .ow 2 q.2.1 (B.length - q.2.1)), (7, .ow 3 0 q.2.2.length)], [(1, .ar 2 0 (A.map (itemC true))), (2, .ar 2 0 (B.map (itemC true))), (3, .ar 2 0 (q.2.2.map (itemC true)))], 4⟩)
    (fun q => (A.length - q.1) + (B.length - q.2.1)) (0, 0, []) ⟨Nat.zero_le _, Nat.zero_le _, rfl, fun x hx => by cases hx⟩ ?_ ?_
  · ((refine rF57_3 ?_) <;> try exact nop)
  rintro ⟨i, j, O⟩ ⟨g1, g2, g3, g4⟩ ih
  replace g1 : i ≤ A.length := g1
  replace g2 : j ≤ B.length := g2
  replace g3 : O.length = i + j := g3
  replace g4 : ∀ x ∈ O, x.t.size ≤ 10000 := g4
  by_cases hi : i < A.length
  · obtain ⟨x, hx⟩ := ex_get hi
    have hxs := hAs x (List.mem_of_getElem? hx)
    have ha1 : ((A.length : Int) - (i : Int) - 1).toNat = A.length - (i + 1) := by omega
    have pa : 0 < A.length - i := by omega
    have np : (fun q : Nat × Nat × List Item => q.1 ≤ A.length ∧ q.2.1 ≤ B.length ∧ q.2.2.length = q.1 + q.2.1 ∧ ∀ x ∈ q.2.2, x.t.size ≤ 10000) (i + 1, j, O ++ [x]) := ⟨hi, g2, by show (O ++ [x]).length = i + 1 + j; rw [List.length_append, g3]; simp; omega, fun y hy => by
      rcases List.mem_append.1 hy with q | q
      · exact g4 y q
      · rw [List.mem_singleton.1 q]; exact hxs⟩
    by_cases hj : j < B.length
    · obtain ⟨y, hy⟩ := ex_get hj
      have hys := hBs y (List.mem_of_getElem? hy)
      have hb1 : ((B.length : Int) - (j : Int) - 1).toNat = B.length - (j + 1) := by omega
      have pb : 0 < B.length - j := by omega
      have nq : (fun q : Nat × Nat × List Item => q.1 ≤ A.length ∧ q.2.1 ≤ B.length ∧ q.2.2.length = q.1 + q.2.1 ∧ ∀ x ∈ q.2.2, x.t.size ≤ 10000) (i, j + 1, O ++ [y]) := ⟨g1, hj, by show (O ++ [y]).length = i + (j + 1); rw [List.length_append, g3]; simp; omega, fun z hz => by
        rcases List.mem_append.1 hz with q | q
        · exact g4 z q
        · rw [List.mem_singleton.1 q]; exact hys⟩
      (have zF := an hx hy; (refine rF57_2 ?_ <;> repeat (refine dx ?_; refine rF57_2 ?_)) <;> first | exact nop | clear zF)
      refine ex_call (specSum x.t w (by omega)) ?_
      (have zF := an hx hy; (refine rF57_2 ?_ <;> repeat (refine dx ?_; refine rF57_2 ?_)) <;> first | exact nop | clear zF)
      refine ex_call (specSum y.t w (by omega)) ?_
      cases e : lts (sumS x.t w) (sumS y.t w) with
      | true =>
        (have zF := an hx (an hy (an e ha1)); (refine rF57_2 ?_ <;> repeat (refine dx ?_; refine rF57_2 ?_)) <;> first | exact nop | clear zF)
        refine ih (i + 1, j, O ++ [x]) _ (by show (A.length - (i + 1)) + (B.length - j) < (A.length - i) + (B.length - j); omega) np ?_
        (have zF := an ha1 hb1; (refine rF57_4 ?_) <;> first | exact nop | clear zF)
      | false =>
        (have zF := an hx (an hy (an e hb1)); (refine rF57_2 ?_ <;> repeat (refine dx ?_; refine rF57_2 ?_)) <;> first | exact nop | clear zF)
        refine ih (i, j + 1, O ++ [y]) _ (by show (A.length - i) + (B.length - (j + 1)) < (A.length - i) + (B.length - j); omega) nq ?_
        (have zF := an ha1 hb1; (refine rF57_4 ?_) <;> first | exact nop | clear zF)
    · have pb : B.length - j = 0 := by omega
      (have zF := an hx (an pb ha1); (refine rF57_2 ?_ <;> repeat (refine dx ?_; refine rF57_2 ?_)) <;> first | exact nop | clear zF)
      refine ih (i + 1, j, O ++ [x]) _ (by show (A.length - (i + 1)) + (B.length - j) < (A.length - i) + (B.length - j); omega) np ?_
      (have zF := an pb ha1; (refine rF57_4 ?_) <;> first | exact nop | clear zF)
  · have pa : A.length - i = 0 := by omega
    by_cases hj : j < B.length
    · obtain ⟨y, hy⟩ := ex_get hj
      have hys := hBs y (List.mem_of_getElem? hy)
      have hb1 : ((B.length : Int) - (j : Int) - 1).toNat = B.length - (j + 1) := by omega
      have pb : 0 < B.length - j := by omega
      have nq : (fun q : Nat × Nat × List Item => q.1 ≤ A.length ∧ q.2.1 ≤ B.length ∧ q.2.2.length = q.1 + q.2.1 ∧ ∀ x ∈ q.2.2, x.t.size ≤ 10000) (i, j + 1, O ++ [y]) := ⟨g1, hj, by show (O ++ [y]).length = i + (j + 1); rw [List.length_append, g3]; simp; omega, fun z hz => by
        rcases List.mem_append.1 hz with q | q
        · exact g4 z q
        · rw [List.mem_singleton.1 q]; exact hys⟩
      (have zF := an hy (an pa hb1); (refine rF57_2 ?_ <;> repeat (refine dx ?_; refine rF57_2 ?_)) <;> first | exact nop | clear zF)
      refine ih (i, j + 1, O ++ [y]) _ (by show (A.length - i) + (B.length - (j + 1)) < (A.length - i) + (B.length - j); omega) nq ?_
      (have zF := an pa hb1; (refine rF57_4 ?_) <;> first | exact nop | clear zF)
    · have pb : B.length - j = 0 := by omega
      (have zF := an pa pb; (refine go0 ?_ <;> repeat (refine dx ?_; refine go0 ?_)) <;> first | exact nop | clear zF)
      exact ⟨_, ⟨O, rfl, by omega, g4⟩, rfl⟩
theorem l4Sorted (w : Int) : ∀ (n : Nat) (L : List Str), L.length = n → L.length ≤ 2000 → (∀ x ∈ L, x.size ≤ 10000) → ∃ r, srR L r ∧ Does Tryz.prog 152 [.sl false 1 (L.map strR), .sc (.int .i64 w)] r := by
  intro n
  induction n using Nat.strongRecOn with
  | _ n ih => exact fun L hn hL hs => l4Sorted_step L w hL hs fun L' hlt hs' => ih L'.length (by omega) L' rfl (by omega) hs'
end Go.Proofs.YtkkmgjhfjhcdmaaGreatDoor.Mx

namespace Go.Proofs.YtkkmgjhfjhcdmaaGreatDoor.Mx
open Go Go.RowKit Go.Proofs
theorem rF58_0 {p q : Prop} (k : q) (h : p = q := by conv => lhs; simp -dsimp (disch := first | omega | (simp only [zF, lrep3, LR] <;> omega) | fail) only [push_cast, zF, lrep3, simprocAttr, -Nat.reduceSubDiff]) : p := h.mpr k
theorem rF58_1 {p q : Prop} (k : q) (h : p = q := by conv => lhs; simp -dsimp (disch := first | omega | (simp only [zF, lrep3, wr_id, LR] <;> omega) | fail) only [push_cast, zF, lrep3, wr_id, simprocAttr, -Nat.reduceSubDiff]) : p := h.mpr k
theorem rF58_2 {p q : Prop} (k : q) (h : p = q := by conv => lhs; simp -dsimp (disch := first | omega | (simp only [zF, lrep3, set_item, Nat.add_zero, LR] <;> omega) | fail) only [push_cast, zF, lrep3, set_item, Nat.add_zero, simprocAttr, -Nat.reduceSubDiff]) : p := h.mpr k
theorem rF58_3 {p q : Prop} (k : q) (h : p = q := by conv => lhs; simp -dsimp (disch := first | omega | (simp only [zF, set_item, Nat.add_zero, LR] <;> omega) | fail) only [push_cast, zF, set_item, Nat.add_zero, simprocAttr, -Nat.reduceSubDiff]) : p := h.mpr k
theorem rF58_4 {p q : Prop} (k : q) (h : p = q := by conv => lhs; simp -dsimp (disch := first | omega | (simp only [zF, wr_id, bytesOf, byteOf, LR] <;> omega) | fail) only [push_cast, zF, wr_id, bytesOf, byteOf, simprocAttr, -Nat.reduceSubDiff]) : p := h.mpr k
theorem rF58_5 {p q : Prop} (k : q) (h : p = q := by conv => lhs; simp -dsimp (disch := first | omega | (simp only [zF, wr_id, sz1b, LR] <;> omega) | fail) only [push_cast, zF, wr_id, sz1b, simprocAttr, -Nat.reduceSubDiff]) : p := h.mpr k
theorem rF58_6 {p q : Prop} (k : q) (h : p = q := by conv => lhs; simp -dsimp (disch := first | omega | (simp only [zF, wr_id, List.map_append, List.length_append, List.length_cons, List.length_nil, List.map_cons, List.map_nil, LR] <;> omega) | fail) only [push_cast, zF, wr_id, List.map_append, List.length_append, List.length_cons, List.length_nil, List.map_cons, List.map_nil, simprocAttr, -Nat.reduceSubDiff]) : p := h.mpr k
theorem addS_in (l : List Str) (s : Str) : s ∈ addS l s ∧ ∀ x ∈ l, x ∈ addS l s := by
  unfold addS
  cases h : hasS l s with
  | true =>
    unfold hasS at h
    exact ⟨List.mem_of_getElem? (of_decide_eq_true h), fun x hx => hx⟩
  | false =>
    refine ⟨by simp, fun x hx => ?_⟩
    rw [cond_false]
    rw [← List.take_append_drop (rk l s) l] at hx
    rcases List.mem_append.1 hx with q | q
    · exact List.mem_append.2 (.inl q)
    · exact List.mem_append.2 (.inr (List.mem_cons_of_mem _ q))
theorem addS_of {l : List Str} {s x : Str} (h : x ∈ addS l s) : x ∈ l ∨ x = s := by
  unfold addS at h
  cases hc : hasS l s with
  | true => rw [hc, cond_true] at h; exact .inl h
  | false =>
    rw [hc, cond_false] at h
    simp only [List.mem_append, List.mem_cons] at h
    rcases h with q | q | q
    · exact .inl (List.mem_of_mem_take q)
    · exact .inr q
    · exact .inl (List.mem_of_mem_drop q)
def byS (w i : Nat) : Str := manyS ⟨#[UInt8.ofNat i]⟩ w
theorem byS_ne {w i j : Nat} (hw : 1 ≤ w) (hi : i < 256) (hj : j < 256) (h : byS w i = byS w j) : i = j := by
  unfold byS manyS at h
  have h2 := congrArg bt h
  rw [bt_stB, bt_stB] at h2
  obtain ⟨k, rfl⟩ : ∃ k, w = k + 1 := ⟨w - 1, by omega⟩
  rw [repB, repB] at h2
  have e : ∀ n : Nat, bt (⟨#[UInt8.ofNat n]⟩ : ByteArray) = [UInt8.ofNat n] := fun n => rfl
  rw [e, e, List.singleton_append, List.singleton_append] at h2
  have h3 := (List.cons.inj h2).1
  have h4 := congrArg UInt8.toNat h3
  rw [UInt8.toNat_ofNat', UInt8.toNat_ofNat'] at h4
  omega
theorem byS_len {w : Nat} (hw : 1 ≤ w) {L : List Str} {n : Nat} (hn : n ≤ 256) (h : ∀ j, j < n → byS w j ∈ L) : n ≤ L.length := by
  have nd : ((List.range n).map (byS w)).Nodup := by
    refine List.pairwise_map.2 (List.Pairwise.imp_of_mem (R := (· ≠ ·)) (fun {a b} ha hb hne e => hne (byS_ne hw (by have := List.mem_range.1 ha; omega) (by have := List.mem_range.1 hb; omega) e)) List.nodup_range)
  have := nodup_len nd (m := L) fun x hx => by
    obtain ⟨j, hj, rfl⟩ := List.mem_map.1 hx
    exact h j (List.mem_range.1 hj)
  simpa using this
def spR (c : List Int) (p K : Int) (r : Ans) : Prop := ∃ (s : Store) (p' : Int), r = (.ag (storeC true s), [some (.pb true (rdC1 c p'))]) ∧ okStore s ∧ p ≤ p' ∧ p' ≤ p + K
theorem sz1b (a : UInt8) : (⟨#[a]⟩ : ByteArray).size = 1 := rfl
theorem okL_snoc {α : Type} {ok : α → Prop} {l : List α} {x : α} (h : okL ok l) (hl : l.length ≤ 2097151) (hx : ok x) : okL ok (l ++ [x]) :=
  ⟨by rw [List.length_append]; simp; omega, fun a ha => by
    rcases List.mem_append.1 ha with q | q
    · exact h.2 a q
    · rw [List.mem_singleton.1 q]; exact hx⟩
theorem okL_set {α : Type} {ok : α → Prop} {l : List α} {x : α} {i : Nat} (h : okL ok l) (hx : ok x) : okL ok (l.set i x) :=
  ⟨by rw [List.length_set]; exact h.1, fun a ha => by
    rcases List.mem_or_eq_of_mem_set ha with q | q
    · exact h.2 a q
    · rw [q]; exact hx⟩
def E110 : Env := { T := T0, kp := look [(0, [0, 1]), (1, [0, 3, 4]), (2, [0, 3, 4, 5]), (3, [0, 4, 5]), (4, [0, 4, 5]), (5, [0, 4, 5, 8]), (6, [0, 4, 5, 8]), (7, [0, 4, 5, 8]), (8, [0, 4, 5, 8, 9]), (9, [0, 4, 5, 8, 9, 10]), (10, [0, 4, 5, 8, 9, 10]), (11, [0, 4, 5, 8, 9, 10]), (12, [0, 4, 5, 9]), (13, [0, 3, 4, 5, 14]), (14, [0, 4, 5]), (15, [0, 3, 4, 5, 14]), (16, [0, 3, 4, 5]), (17, [0, 3, 4, 5, 14]), (18, [0, 4, 5]), (19, [0, 3, 4, 5, 14]), (20, [0, 4, 5]), (21, [0, 4, 5]), (22, [0, 3, 4, 5, 14]), (23, [0, 4, 5]), (24, [0, 4, 5]), (25, [0, 3, 4, 5, 14]), (26, [0, 3, 4, 5]), (27, [0, 3, 4, 5, 14]), (28, [0, 3, 4, 5]), (29, [0, 3, 4, 5, 6]), (30, [0, 3, 4, 5, 6, 7]), (31, [0, 3, 4, 5, 6, 7]), (32, [0, 3, 4, 5, 6, 7]), (33, [0, 4, 5])], dp := look2 [(18, [[], [0], [], [2], [2, 3], [2, 3, 4], [2, 3, 4, 5], [], [2, 3, 4, 5, 7], [2, 3, 4, 5, 6, 7, 8], [2, 3, 4, 5, 6, 7, 8, 9], [2, 3, 4, 5, 6, 7, 8, 9, 10], [2, 3, 4, 5, 6, 7, 8, 9, 10, 11], [0, 1, 2, 3, 4, 5, 6, 7, 8, 9, 10, 11, 12], [0, 1, 2, 3, 4, 5, 6, 7, 8, 9, 10, 11, 12, 13], [0, 1, 2, 3, 4, 5, 6, 7, 8, 9, 10, 11, 12, 13, 14]]), (21, [[], [0], [], [], [3], [2, 3, 4], [2, 3, 4, 5], [0, 1, 2, 3, 4, 5, 6], [0, 1, 2, 3, 4, 5, 6, 7], [0, 1, 2, 3, 4, 5, 6, 7, 8]]), (24, [[], [0], [], [2], [2, 3], [2, 3, 4], [0, 1, 2, 3, 4, 5], [0, 1, 2, 3, 4, 5, 6]]), (26, [[], [0], [], [2], [2, 3], [2, 3, 4], [], [2, 3, 4, 6], [2, 3, 4, 5, 6, 7], [2, 3, 4, 5, 6, 7, 8], [2, 3, 4, 5, 6, 7, 8, 9], [0, 1, 2, 3, 4, 5, 6, 7, 8, 9, 10], [0, 1, 2, 3, 4, 5, 6, 7, 8, 9, 10, 11], [0, 1, 2, 3, 4, 5, 6, 7, 8, 9, 10, 11, 12]]), (32, [[], [0], [], [2], [2, 3], [2, 3, 4], [], [6], [2, 3, 4, 5, 6, 7], [0, 1, 2, 3, 4, 5, 6, 7, 8], [0, 1, 2, 3, 4, 5, 6, 7, 8, 9], [0, 1, 2, 3, 4, 5, 6, 7, 8, 9, 10]])], md := look3 [(2, 1, [1, 0]), (4, 1, [1, 0]), (14, 2, [1, 0]), (16, 5, [1, 0]), (18, 3, [1, 0]), (18, 8, [1, 0]), (21, 4, [1, 0]), (26, 7, [1, 0]), (28, 1, [1, 0]), (32, 9, [2])] }
attribute [local push_cast] E110
set_option maxRecDepth 20000 in
set_option maxHeartbeats 4000000 in
theorem l4Spoil (c : List Int) (p : Int) (s : Store) (hc : okCode c) (hp : 0 ≤ p) (hp2 : p ≤ 9000) (hs : gS s) : ∃ r, spR c p 10 r ∧ Does Tryz.prog 110 [.pb true (rdC1 c p), .ag (storeC true s)] r := by
  refine does_ex (E := E110) (rs := [.cell 4 26]) (lent := [true]) tOk rfl Tryz.func110 rfl (by decide) rfl rfl (Nat.le_of_ble_eq_true rfl) (Nat.le_of_ble_eq_true rfl) ?_
  obtain ⟨hok, hP, hw1, hw8, hI⟩ := hs
  have hl := hok.1.1
  ((refine go0 ?_ <;> repeat (refine dx ?_; refine go0 ?_)) <;> try exact nop)
  refine ex_call (l4Copy s hok) ?_
  obtain ⟨k, hk, hd⟩ := pick_nat c p 8 hc hp (by omega) (by omega) (by omega)
  ((refine go0 ?_ <;> repeat (refine dx ?_; refine go0 ?_)) <;> try exact nop)
  refine ex_call hd ?_
  clear hd
  obtain ⟨wn, hwn⟩ := nat_of' (show 0 ≤ s.w by omega)
  by_cases k0 : k = 0
  · subst k0
    obtain ⟨d, hd0, hd⟩ := pick_nat c (p + 1) 3 hc (by omega) (by omega) (by omega) (by omega)
    ((refine rF58_0 ?_ <;> repeat (refine dx ?_; refine rF58_0 ?_)) <;> try exact nop)
    refine ex_call hd ?_
    have fin : ∀ z : Int, spR c p 10 (.ag [.sc (.int .i64 z), .sc (.int .i64 s.r), .sl true 2 (s.I.map (itemC true)), .sl true 1 (s.P.map strR)], [some (.pb true (rdC1 c (p + 1 + 1)))]) := fun z =>
      ⟨{ s with w := z }, p + 1 + 1, rfl, hok, by omega, by omega⟩
    rcases (show d = 0 ∨ d = 1 ∨ d = 2 by omega) with rfl | rfl | rfl
    all_goals
      ((refine rF58_0 ?_ <;> repeat (refine dx ?_; refine rF58_0 ?_)) <;> try exact nop)
      exact ⟨_, fin _, rfl⟩
  by_cases k1 : k = 1
  · subst k1
    ((refine go0 ?_ <;> repeat (refine dx ?_; refine go0 ?_)) <;> try exact nop)
    refine ex_call (l4Bytes s hok) ?_
    obtain ⟨d, hd0, hd⟩ := pick_nat c (p + 1) 3 hc (by omega) (by omega) (by omega) (by omega)
    ((refine rF58_0 ?_ <;> repeat (refine dx ?_; refine rF58_0 ?_)) <;> try exact nop)
    refine ex_call hd ?_
    have fin : ∀ z : Int, spR c p 10 (.ag [.sc (.int .i64 s.w), .sc (.int .i64 z), .sl true 2 (s.I.map (itemC true)), .sl true 1 (s.P.map strR)], [some (.pb true (rdC1 c (p + 1 + 1)))]) := fun z =>
      ⟨{ s with r := z }, p + 1 + 1, rfl, hok, by omega, by omega⟩
    rcases (show d = 0 ∨ d = 1 ∨ d = 2 by omega) with rfl | rfl | rfl
    all_goals
      ((refine rF58_0 ?_ <;> repeat (refine dx ?_; refine rF58_0 ?_)) <;> try exact nop)
      exact ⟨_, fin _, rfl⟩
  by_cases k2 : k = 2
  · subst k2
    obtain ⟨e, he0, hd⟩ := pick_nat c (p + 1) 2 hc (by omega) (by omega) (by omega) (by omega)
    ((refine rF58_0 ?_ <;> repeat (refine dx ?_; refine rF58_0 ?_)) <;> try exact nop)
    refine ex_call hd ?_
    obtain ⟨m, hm⟩ := nat_of' (show 0 ≤ (7000 : Int) + e by omega)
    (have zF := hm; (refine rF58_1 ?_ <;> repeat (refine dx ?_; refine rF58_1 ?_)) <;> first | exact nop | clear zF)
    refine ex_some (l1Many ⟨#[98]⟩ m 7001 (by omega) (by rw [sz1b]; omega) (by omega) (by rw [sz1b]; omega)) ?_
    rintro _ ⟨t, rfl, ht⟩
    obtain ⟨d, hd0, hd⟩ := pick_nat c (p + 1 + 1) 3 hc (by omega) (by omega) (by omega) (by omega)
    (have zF := hm; (refine rF58_1 ?_ <;> repeat (refine dx ?_; refine rF58_1 ?_)) <;> first | exact nop | clear zF)
    refine ex_call hd ?_
    have fin : ∀ z : Str, z.size ≤ 7001 → spR c p 10 (.ag [.sc (.int .i64 s.w), .sc (.int .i64 s.r), .sl true 2 (s.I.map (itemC true) ++ [[.sc (.string z), .sc (.int .i64 0)]]), .sl true 1 (s.P.map strR)], [some (.pb true (rdC1 c (p + 1 + 1 + 1)))]) := fun z hz =>
      ⟨{ s with I := s.I ++ [⟨z, 0⟩] }, p + 1 + 1 + 1, by simp [storeC, itemC], ⟨okL_snoc hok.1 (by omega) (by show z.size ≤ 2097152; omega), hok.2⟩, by omega, by omega⟩
    rcases (show d = 0 ∨ d = 1 ∨ d = 2 by omega) with rfl | rfl | rfl
    · ((refine rF58_1 ?_ <;> repeat (refine dx ?_; refine rF58_1 ?_)) <;> try exact nop)
      exact ⟨_, fin _ (by decide), rfl⟩
    · ((refine rF58_1 ?_ <;> repeat (refine dx ?_; refine rF58_1 ?_)) <;> try exact nop)
      exact ⟨_, fin _ (by decide), rfl⟩
    · ((refine rF58_1 ?_ <;> repeat (refine dx ?_; refine rF58_1 ?_)) <;> try exact nop)
      exact ⟨_, fin _ ht, rfl⟩
  by_cases k3 : k = 3
  · subst k3
    by_cases h0 : 0 < s.I.length
    · obtain ⟨x, hx⟩ := ex_get h0
      have hxo := hok.1.2 x (List.mem_of_getElem? hx)
      obtain ⟨d, hd0, hd⟩ := pick_nat c (p + 1) 3 hc (by omega) (by omega) (by omega) (by omega)
      ((refine rF58_0 ?_ <;> repeat (refine dx ?_; refine rF58_0 ?_)) <;> try exact nop)
      refine ex_call hd ?_
      have fin : ∀ z : Int, spR c p 10 (.ag [.sc (.int .i64 s.w), .sc (.int .i64 s.r), .sl true 2 ((s.I.set 0 ⟨x.t, z⟩).map (itemC true)), .sl true 1 (s.P.map strR)], [some (.pb true (rdC1 c (p + 1 + 1)))]) := fun z =>
        ⟨{ s with I := s.I.set 0 ⟨x.t, z⟩ }, p + 1 + 1, rfl, ⟨okL_set hok.1 hxo, hok.2⟩, by omega, by omega⟩
      rcases (show d = 0 ∨ d = 1 ∨ d = 2 by omega) with rfl | rfl | rfl
      all_goals
        (have zF := hx; (refine rF58_2 ?_ <;> repeat (refine dx ?_; refine rF58_2 ?_)) <;> first | exact nop | clear zF)
        exact ⟨_, fin _, rfl⟩
    · ((refine go0 ?_ <;> repeat (refine dx ?_; refine go0 ?_)) <;> try exact nop)
      exact ⟨_, ⟨s, p + 1, rfl, hok, by omega, by omega⟩, rfl⟩
  by_cases k4 : k = 4
  · subst k4
    by_cases h0 : 1 < s.I.length
    · obtain ⟨x, hx⟩ := ex_get (show 0 < s.I.length by omega)
      obtain ⟨y, hy⟩ := ex_get h0
      have hyo := hok.1.2 y (List.mem_of_getElem? hy)
      (have zF := an hx hy; (refine rF58_3 ?_ <;> repeat (refine dx ?_; refine rF58_3 ?_)) <;> first | exact nop | clear zF)
      exact ⟨_, ⟨{ s with I := s.I.set 0 ⟨y.t, y.u⟩ }, p + 1, rfl, ⟨okL_set hok.1 hyo, hok.2⟩, by omega, by omega⟩, rfl⟩
    · ((refine go0 ?_ <;> repeat (refine dx ?_; refine go0 ?_)) <;> try exact nop)
      exact ⟨_, ⟨s, p + 1, rfl, hok, by omega, by omega⟩, rfl⟩
  by_cases k5 : k = 5
  · subst k5
    (have zF := hwn; (refine rF58_0 ?_ <;> repeat (refine dx ?_; refine rF58_0 ?_)) <;> first | exact nop | clear zF)
    refine ex_some (l1Many ⟨#[255]⟩ wn 8 (by omega) (by rw [sz1b]; omega) (by omega) (by rw [sz1b]; omega)) ?_
    rintro _ ⟨t, rfl, ht⟩
    obtain ⟨d, hd0, hd⟩ := pick_nat c (p + 1) 3 hc (by omega) (by omega) (by omega) (by omega)
    (have zF := hwn; (refine rF58_0 ?_ <;> repeat (refine dx ?_; refine rF58_0 ?_)) <;> first | exact nop | clear zF)
    refine ex_call hd ?_
    have fin : ∀ z : Str, z.size ≤ 8 → spR c p 10 (.ag [.sc (.int .i64 wn), .sc (.int .i64 s.r), .sl true 2 (s.I.map (itemC true)), .sl true 1 (s.P.map strR ++ [[.sc (.string z)]])], [some (.pb true (rdC1 c (p + 1 + 1)))]) := fun z hz =>
      ⟨{ s with P := s.P ++ [z] }, p + 1 + 1, by simp [storeC, strR, hwn], ⟨hok.1, okL_snoc hok.2 (by omega) (by show z.size ≤ 2097152; omega)⟩, by omega, by omega⟩
    rcases (show d = 0 ∨ d = 1 ∨ d = 2 by omega) with rfl | rfl | rfl
    · (have zF := hwn; (refine rF58_0 ?_ <;> repeat (refine dx ?_; refine rF58_0 ?_)) <;> first | exact nop | clear zF)
      exact ⟨_, fin _ (by decide), rfl⟩
    · (have zF := hwn; (refine rF58_0 ?_ <;> repeat (refine dx ?_; refine rF58_0 ?_)) <;> first | exact nop | clear zF)
      exact ⟨_, fin _ (by decide), rfl⟩
    · (have zF := hwn; (refine rF58_0 ?_ <;> repeat (refine dx ?_; refine rF58_0 ?_)) <;> first | exact nop | clear zF)
      exact ⟨_, fin _ ht, rfl⟩
  by_cases k6 : k = 6
  · subst k6
    obtain ⟨d, hd0, hd⟩ := pick_nat c (p + 1) 2 hc (by omega) (by omega) (by omega) (by omega)
    ((refine go1 ?_ <;> repeat (refine dx ?_; refine go1 ?_)) <;> try exact nop)
    refine ex_call hd ?_
    clear hd
    ((refine go1 ?_ <;> repeat (refine dx ?_; refine go1 ?_)) <;> try exact nop)
    refine ex_loop (α := Nat × List Str) (fun q => q.1 ≤ 12 ∧ q.2.length ≤ 11 ∧ okL okStr q.2 ∧ ∀ j, j < q.1 → byS wn j ∈ q.2)
      (fun q => ⟨[(0, .pt 1 0 0), (3, .pt 2 0 0), (4, .pt 5 0 0), (5, .pt 8 0 0), (6, .sc (.int .i64 (10 + (d : Int)))), (7, .sc (.int .i64 q.1))],
        [(1, .bx (rdC1 c (p + 1 + 1))), (2, .bx [.sc (.int .i64 s.w), .sc (.int .i64 s.r), .ow 3 0 s.I.length, .ow 4 0 s.P.length]), (3, .ar 2 0 (s.I.map (itemC true))), (4, .ar 1 0 (s.P.map strR)), (5, .bx [.sc (.int .i64 0), .sc (.int .i64 0), .ow 6 0 0, .ow 7 0 0]), (6, .ar 2 0 []), (7, .ar 1 0 []),
          (8, .bx [.sc (.int .i64 s.w), .sc (.int .i64 s.r), .ow 9 0 s.I.length, .ow 10 0 q.2.length]), (9, .ar 2 0 (s.I.map (itemC true))), (10, .ar 1 0 (q.2.map strR))], 11⟩) (fun q => 12 - q.1) (0, s.P) ⟨Nat.zero_le _, by show s.P.length ≤ 11; omega, hok.2, fun j hj => by omega⟩ ?_ ?_
    · ((refine go0 ?_) <;> try exact nop)
    rintro ⟨i, L⟩ ⟨g1, g2, g3, g4⟩ ih
    replace g1 : i ≤ 12 := g1
    replace g2 : L.length ≤ 11 := g2
    replace g3 : okL okStr L := g3
    replace g4 : ∀ j, j < i → byS wn j ∈ L := g4
    have hiL := byS_len (w := wn) (by omega) (by omega) g4
    by_cases h : (L.length : Int) < 10 + d
    · have e8 : wr .u8 (i : Int) = i := by rw [wr_u8]; omega
      have hsz : (⟨#[UInt8.ofNat i]⟩ : ByteArray).size = 1 := rfl
      (have zF := an e8 hwn; (refine rF58_4 ?_ <;> repeat (refine dx ?_; refine rF58_4 ?_)) <;> first | exact nop | clear zF)
      refine ex_call (l1ManyX ⟨#[UInt8.ofNat i]⟩ wn (by omega) (by rw [hsz]; omega) (by rw [hsz]; omega)) ?_
      rw [show manyS ⟨#[UInt8.ofNat i]⟩ wn = byS wn i from rfl]
      (have zF := an e8 hwn; (refine rF58_4 ?_ <;> repeat (refine dx ?_; refine rF58_4 ?_)) <;> first | exact nop | clear zF)
      refine ex_call (l4Add L (byS wn i) (by omega)) ?_
      have ha := addS_len1 L (byS wn i)
      have hi := addS_in L (byS wn i)
      have hbs : (byS wn i).size ≤ 8 := by unfold byS; rw [manyS_sz, hsz]; omega
      (have zF := an e8 hwn; (refine rF58_4 ?_ <;> repeat (refine dx ?_; refine rF58_4 ?_)) <;> first | exact nop | clear zF)
      refine ih (i + 1, addS L (byS wn i)) _ (by show 12 - (i + 1) < 12 - i; omega) ⟨by show i + 1 ≤ 12; omega, by show (addS L (byS wn i)).length ≤ 11; omega, ⟨by show (addS L (byS wn i)).length ≤ _; omega, fun a ha => by
        rcases addS_of ha with q | q
        · exact g3.2 a q
        · rw [q]; show (byS wn i).size ≤ 2097152; omega⟩, fun j hj => by
        by_cases q : j = i
        · rw [q]; exact hi.1
        · exact hi.2 _ (g4 j (by omega))⟩ ?_
      (have zF := hwn; (refine go1 ?_) <;> first | exact nop | clear zF)
    · ((refine go1 ?_ <;> repeat (refine dx ?_; refine go1 ?_)) <;> try exact nop)
      exact ⟨_, ⟨{ s with P := L }, p + 1 + 1, rfl, ⟨hok.1, g3⟩, by omega, by omega⟩, rfl⟩
  obtain ⟨d, hd0, hd⟩ := pick_nat c (p + 1) 2 hc (by omega) (by omega) (by omega) (by omega)
  (have zF := an k0 (an k1 (an k2 (an k3 (an k4 (an k5 k6))))); (refine go1 ?_ <;> repeat (refine dx ?_; refine go1 ?_)) <;> first | exact nop | clear zF)
  refine ex_call hd ?_
  clear hd
  by_cases hw2 : 2 < s.w
  rotate_left
  · ((refine go1 ?_ <;> repeat (refine dx ?_; refine go1 ?_)) <;> try exact nop)
    exact ⟨_, ⟨{ s with r := 60000 }, p + 1 + 1, rfl, hok, by omega, by omega⟩, rfl⟩
  ((refine go1 ?_ <;> repeat (refine dx ?_; refine go1 ?_)) <;> try exact nop)
  refine ex_loop (α := Nat × List Str) (fun q => q.2.length = q.1 ∧ q.1 ≤ 1001 ∧ ∀ x ∈ q.2, x.size ≤ 10000)
    (fun q => ⟨[(0, .pt 1 0 0), (4, .pt 2 0 0), (5, .pt 5 0 0), (8, .sc (.int .i64 (1000 + (d : Int)))), (9, .ow 8 0 q.2.length), (10, .sc (.int .i64 q.1))],
      [(1, .bx (rdC1 c (p + 1 + 1))), (2, .bx [.sc (.int .i64 0), .sc (.int .i64 0), .ow 3 0 0, .ow 4 0 0]), (3, .ar 2 0 []), (4, .ar 1 0 []),
        (5, .bx [.sc (.int .i64 s.w), .sc (.int .i64 60000), .ow 6 0 0, .ow 7 0 s.P.length]), (6, .ar 2 0 []), (7, .ar 1 0 (s.P.map strR)), (8, .ar 1 0 (q.2.map strR))], 9⟩) (fun q => 1002 - q.1) (0, []) ⟨rfl, by show 0 ≤ 1001; omega, fun x hx => by cases hx⟩ ?_ ?_
  · ((refine go0 ?_) <;> try exact nop)
  rintro ⟨i, L⟩ ⟨g1, g2, g3⟩ ih
  replace g1 : L.length = i := g1
  replace g2 : i ≤ 1001 := g2
  replace g3 : ∀ x ∈ L, x.size ≤ 10000 := g3
  by_cases h : (L.length : Int) < 1000 + d
  · ((refine go1 ?_ <;> repeat (refine dx ?_; refine go1 ?_)) <;> try exact nop)
    refine ex_call (l3Dec i (by omega)) ?_
    have hdl : (stB (Lib.decDigits i)).size ≤ 1002 := by have := decD_len i; rw [stB_size]; omega
    generalize stB (Lib.decDigits i) = D at *
    ((refine rF58_5 ?_ <;> repeat (refine dx ?_; refine rF58_5 ?_)) <;> try exact nop)
    refine ih (i + 1, L ++ [⟨#[116]⟩ ++ D]) _ (by show 1002 - (i + 1) < 1002 - i; omega) ⟨by show (L ++ [_]).length = i + 1; rw [List.length_append, g1]; rfl, by show i + 1 ≤ 1001; omega, fun x hx => by
      rcases List.mem_append.1 hx with q | q
      · exact g3 x q
      · rw [List.mem_singleton.1 q, ByteArray.size_append, sz1b]; omega⟩ ?_
    ((refine rF58_6 ?_) <;> try exact nop)
  · ((refine go1 ?_ <;> repeat (refine dx ?_; refine go1 ?_)) <;> try exact nop)
    refine ex_some (l4Sorted s.w L.length L rfl (by omega) g3) ?_
    rintro _ ⟨J, rfl, hJ, hJs⟩
    ((refine go1 ?_ <;> repeat (refine dx ?_; refine go1 ?_)) <;> try exact nop)
    exact ⟨_, ⟨{ s with r := 60000, I := J }, p + 1 + 1, rfl, ⟨⟨by show J.length ≤ _; omega, fun a ha => by have := hJs a ha; show a.t.size ≤ 2097152; omega⟩, hok.2⟩, by omega, by omega⟩, rfl⟩
end Go.Proofs.YtkkmgjhfjhcdmaaGreatDoor.Mx

namespace Go.Proofs.YtkkmgjhfjhcdmaaGreatDoor.Mx
open Go Go.RowKit Go.Proofs
theorem take_code {c : List Int} (hc : c.length ≤ 1048576) (hb : ∀ x ∈ c, 0 ≤ x ∧ x ≤ 255) : okCode (c.take 2000) := ⟨by rw [List.length_take]; omega, fun x hx => hb x (List.mem_of_mem_take hx)⟩
end Go.Proofs.YtkkmgjhfjhcdmaaGreatDoor.Mx

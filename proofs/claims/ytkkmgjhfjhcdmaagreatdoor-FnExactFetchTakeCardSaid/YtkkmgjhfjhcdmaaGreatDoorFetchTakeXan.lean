/- A machine over values for Go functions, proved sound, and functions run on it: texts F61, F62, F63, LFetchTake. -/
import Derived.Test.YtkkmgjhfjhcdmaaGreatDoorFetchTakeXaj
import Derived.Test.YtkkmgjhfjhcdmaaGreatDoorFetchTakeXak
import Derived.Test.YtkkmgjhfjhcdmaaGreatDoorFetchTakeXal
import Derived.Test.YtkkmgjhfjhcdmaaGreatDoorFetchTakeXam
/- A fetch takes a message: the program. -/
namespace Go.Proofs.YtkkmgjhfjhcdmaaGreatDoor.Mx
set_option linter.all false
open Go Go.RowKit Go.Proofs
set_option linter.unusedSimpArgs false
theorem set_peer (Q : List Peer) (i : Nat) (a b c : Int) (u : Str) (N : List Str) : (Q.map (peerC true)).set i [.sc (.int .i64 a), .sc (.int .i64 b), .sc (.int .i64 c), .sc (.string u), .sl true 1 (N.map strR)] = (Q.set i ⟨a, b, c, u, N⟩).map (peerC true) := by
  rw [List.map_set]; rfl
theorem peer_of {f : Fetch} (hv : validF f = true) {i : Nat} {p : Peer} (hp : f.Q[i]? = some p) : peerB f.st.w f.now p = true := by
  unfold validF at hv
  simp only [Bool.and_eq_true] at hv
  exact List.all_eq_true.1 hv.2 p (List.mem_of_getElem? hp)
theorem peer_up {w now : Int} {p : Peer} (h : peerB w now p = true) : (0 ≤ p.lies ∧ p.lies ≤ 3) ∧ (0 ≤ p.wait ∧ p.wait ≤ 5) ∧ (-1 ≤ p.last ∧ p.last ≤ now) ∧ p.N.length ≤ 376 ∧ askB w p.wait p.ask = true ∧ ascF w none p.N = true := by
  unfold peerB at h
  simp only [Bool.and_eq_true, decide_eq_true_eq] at h
  obtain ⟨⟨⟨⟨⟨h1, h2⟩, h3⟩, h4⟩, h5⟩, h6⟩ := h
  exact ⟨of_decide_eq_true h1, of_decide_eq_true h2, of_decide_eq_true h3, h4, h5, h6⟩
theorem take_out {f : Fetch} {m : Message} (h : m.to ≠ 0 ∨ m.fr < 1 ∨ (f.Q.length : Int) < m.fr) : takeF f m = f ∧ takenB f m = false := by
  unfold takeF takenB; rw [if_pos h, if_pos h]; exact ⟨rfl, rfl⟩
theorem take_in {f : Fetch} {m : Message} {i : Nat} {p : Peer} (h0 : m.to = 0) (h1 : m.fr = (i : Int) + 1) (hp : f.Q[i]? = some p) :
    takeF f m = (if p.wait = 0 ∨ m.sum ≠ p.ask then f
      else if m.has = false then { f with Q := f.Q.set i (notP p m.sum) }
      else { f with
        full := if lieB f m = false ∧ (putF f.st m.tx f.now).2 = 3 then true else f.full
        st := if lieB f m = false ∧ (putF f.st m.tx f.now).2 = 0 then (putF f.st m.tx f.now).1 else f.st
        Q := f.Q.set i (lieP p (lieB f m)) }) ∧ takenB f m = (if p.wait = 0 ∨ m.sum ≠ p.ask then false else if m.has = false then false else lieB f m) := by
  have hi := (List.getElem?_eq_some_iff.1 hp).1
  have hn : ¬ (m.to ≠ 0 ∨ m.fr < 1 ∨ (f.Q.length : Int) < m.fr) := by omega
  have e : (m.fr - 1).toNat = i := by omega
  unfold takeF takenB
  rw [if_neg hn, if_neg hn, e, hp]
  exact ⟨rfl, rfl⟩
theorem put_code (s : Store) (t : Str) (now : Int) : (putF s t now).2 = 0 ∨ (putF s t now).2 = 1 ∨ (putF s t now).2 = 2 ∨ (putF s t now).2 = 3 := by
  unfold putF
  split
  · simp
  · split
    · split <;> simp
    · split <;> simp
def E103 : Env := { T := T0, kp := look [(0, [0, 1]), (1, [2, 3, 4]), (2, [2, 4]), (3, [2, 3, 4]), (4, [2, 3, 4, 6]), (5, [2, 4]), (6, [2, 3, 4, 6]), (7, [2, 3, 4, 6]), (8, [2, 3, 4, 6]), (9, [2, 3, 4, 6, 7]), (10, [2, 3, 4, 6, 7]), (11, [2, 3, 4, 6, 7]), (12, [2, 3, 4, 6, 7]), (13, [2, 4]), (14, [2, 3, 4, 6]), (15, [2, 3, 4, 6, 8]), (16, [2, 3, 4, 6, 8]), (17, [2, 3, 4, 6, 8, 10]), (18, [2, 3, 4, 6, 8]), (19, [2, 3, 4, 6, 8]), (20, [2, 4, 6, 8, 11, 12]), (21, [2, 4, 6]), (22, [2, 4, 6, 8, 11, 166]), (23, [2, 4, 6, 8, 11]), (24, [2, 4, 6, 8, 166]), (25, [2, 4, 6, 8]), (26, [2, 4, 6, 8]), (27, [2, 4, 6, 8]), (28, [2, 4, 8])], dp := look2 [(4, [[], [0], [0, 1], [0, 1, 2], [0, 1, 2, 3], [0, 1, 2, 3, 4], [0, 1, 2, 3, 4, 5], [0, 1, 2, 3, 4, 5, 6], [0, 1, 2, 3, 4, 5], [0, 1, 2, 3, 4, 5, 8], [0, 1, 2, 3, 4, 5, 8, 9], [0, 1, 2, 3, 4, 5, 8, 9, 10], [0, 1, 2, 3, 4, 5, 6, 7, 8, 9, 10, 11], [0, 1, 2, 3, 4, 5, 6, 7, 8, 9, 10, 11, 12]]), (8, [[], [0], [0, 1], [0, 1, 2], [], [4], [0, 1, 2, 3, 4, 5], [0, 1, 2, 3, 4, 5, 6]]), (9, [[], [], [1], [1, 2], [1, 2, 3], [1, 2, 3, 4], [0, 1, 2, 3, 4, 5], [0, 1, 2, 3, 4, 5, 6], [0, 1, 2, 3, 4, 5, 6, 7], [0, 1, 2, 3, 4, 5, 6, 7, 8], [0, 1, 2, 3, 4, 5, 6, 7, 8, 9], [0, 1, 2, 3, 4, 5, 6, 7, 8, 9, 10], [0, 1, 2, 3, 4, 5, 6, 7], [0, 1, 2, 3, 4, 5, 6, 7, 8, 9, 10, 11, 12], [0, 1, 2, 3, 4, 5, 6, 7, 8, 9, 10, 11, 12, 13], [0, 1, 2, 3, 4, 5, 6, 7], [0, 1, 2, 3, 4, 5, 6, 7, 15], [0, 1, 2, 3, 4, 5, 6, 7, 8, 9, 10, 11, 12, 13, 14, 15, 16], [0, 1, 2, 3, 4, 5, 6, 7, 8, 9, 10, 11, 12, 13, 14, 15, 16, 17], [0, 1, 2, 3, 4, 5, 6, 7, 8, 9, 10, 11, 12, 13, 14, 15, 16, 17, 18], [0, 1, 2, 3, 4, 5, 6, 7, 8, 9, 10, 11, 12, 13, 14, 15, 16, 17, 18, 19], [0, 1, 2, 3, 4, 5, 6, 7, 8, 9, 10, 11, 12, 13, 14, 15, 16, 17, 18, 19, 20], [0, 1, 2, 3, 4, 5, 6, 7, 8, 9, 10, 11, 12, 13, 14, 15, 16, 17, 18, 19, 20, 21], [0, 1, 2, 3, 4, 5, 6, 7, 8, 9, 10, 11, 12, 13, 14, 15, 16, 17, 18, 19, 20, 21, 22], [0, 1, 2, 3, 4, 5, 6, 7, 8, 9, 10, 11, 12, 13, 14, 15, 16, 17, 18, 19, 20, 21, 22, 23], [0, 1, 2, 3, 4, 5, 6, 7, 8, 9, 10, 11, 12, 13, 14, 15, 16, 17, 18, 19, 20, 21, 22, 23, 24], [0, 1, 2, 3, 4, 5, 6, 7, 8, 9, 10, 11, 12, 13, 14, 15, 16, 17, 18, 19, 20, 21, 22, 23, 24, 25]]), (11, [[], [0], [0, 1], [0, 1, 2], [], [4], [0, 1, 2, 3, 4, 5], [], [7], [7, 8], [7, 8, 9], [], [7, 8, 9, 10, 11], [0, 1, 2, 3, 4, 5, 6, 7, 8, 9, 10, 11, 12]]), (12, [[], [0], [0, 1], [0, 1, 2], [], [], [5], [0, 1, 2, 3, 4, 5, 6], [0, 1, 2, 3, 4, 5, 6, 7]]), (14, [[], [0], [], [2], [2, 3], [0, 1, 2, 3, 4], [], [6], [0, 1, 2, 3, 4, 5, 6, 7], [0, 1, 2, 3, 4, 5, 6, 7, 8]])] }
attribute [local push_cast] E103
set_option maxRecDepth 20000 in
set_option maxHeartbeats 4000000 in
theorem implTake (f : Fetch) (m : Message) (hf : okFetch f) (hm : okMessage m) (hv : validF f = true) : Does Tryz.prog 103 [.ag (fetchC true f), .ag (messageC false m)] (.tu [.ag (fetchC true (takeF f m)), .sc (.bool (takenB f m))], []) := by
  refine does_of (E := E103) (rs := [.cell 4 53, .tmp 5]) (lent := []) tOk rfl Tryz.func103 rfl (by decide) rfl rfl (Nat.le_of_ble_eq_true rfl) (Nat.le_of_ble_eq_true rfl) ?_
  obtain ⟨M, hM⟩ : ∃ M, M = takeF f m := ⟨_, rfl⟩
  obtain ⟨T, hT⟩ : ∃ T, T = takenB f m := ⟨_, rfl⟩
  rw [← hM, ← hT]
  have hQl := hf.2.2.1
  have hIl := hf.2.1.1.1
  have hPl := hf.2.1.2.1
  by_cases c1 : m.to = 0
  rotate_left
  · obtain ⟨e1, e2⟩ := take_out (f := f) (m := m) (.inl c1)
    rw [e1] at hM; rw [e2] at hT
    subst hM hT
    (simp -dsimp (disch := first | omega | (simp only [c1, LR] <;> omega) | fail) only [push_cast, c1, simprocAttr, -Nat.reduceSubDiff]) <;> (repeat (refine (aw_draw (by kernel_rfl)).2 ?_; simp -dsimp (disch := first | omega | (simp only [c1, LR] <;> omega) | fail) only [push_cast, c1, simprocAttr, -Nat.reduceSubDiff]))
  by_cases c2 : m.fr < 1
  · obtain ⟨e1, e2⟩ := take_out (f := f) (m := m) (.inr (.inl c2))
    rw [e1] at hM; rw [e2] at hT
    subst hM hT
    (simp -dsimp (disch := first | omega | (simp only [c1, LR] <;> omega) | fail) only [push_cast, c1, simprocAttr, -Nat.reduceSubDiff]) <;> (repeat (refine (aw_draw (by kernel_rfl)).2 ?_; simp -dsimp (disch := first | omega | (simp only [c1, LR] <;> omega) | fail) only [push_cast, c1, simprocAttr, -Nat.reduceSubDiff]))
  by_cases c3 : (f.Q.length : Int) < m.fr
  · obtain ⟨e1, e2⟩ := take_out (f := f) (m := m) (.inr (.inr c3))
    rw [e1] at hM; rw [e2] at hT
    subst hM hT
    (simp -dsimp (disch := first | omega | (simp only [c1, LR] <;> omega) | fail) only [push_cast, c1, simprocAttr, -Nat.reduceSubDiff]) <;> (repeat (refine (aw_draw (by kernel_rfl)).2 ?_; simp -dsimp (disch := first | omega | (simp only [c1, LR] <;> omega) | fail) only [push_cast, c1, simprocAttr, -Nat.reduceSubDiff]))
  obtain ⟨i, hi⟩ : ∃ i : Nat, m.fr = (i : Int) + 1 := ⟨(m.fr - 1).toNat, by omega⟩
  obtain ⟨p, hp⟩ := ex_get (show i < f.Q.length by omega)
  obtain ⟨e1, e2⟩ := take_in c1 hi hp
  rw [e1] at hM
  rw [e2] at hT
  clear e1 e2
  have ei : ((i : Int) + 1 - 1).toNat = i := by omega
  have ei2 : (i : Int) + 1 - 1 = i := by omega
  have hil : i < f.Q.length := by omega
  obtain ⟨q1, q2, q3, q4, q5, q6⟩ := peer_up (peer_of hv hp)
  by_cases c4 : p.wait = 0
  · rw [if_pos (.inl c4)] at hM hT
    subst hM hT
    (simp -dsimp (disch := first | omega | (simp only [c1, hi, hp, c4, wr_id, ei2, ei, LR] <;> omega) | fail) only [push_cast, c1, hi, hp, c4, wr_id, ei2, ei, simprocAttr, -Nat.reduceSubDiff]) <;> (repeat (refine (aw_draw (by kernel_rfl)).2 ?_; simp -dsimp (disch := first | omega | (simp only [c1, hi, hp, c4, wr_id, ei2, ei, LR] <;> omega) | fail) only [push_cast, c1, hi, hp, c4, wr_id, ei2, ei, simprocAttr, -Nat.reduceSubDiff]))
  by_cases c5 : m.sum = p.ask
  rotate_left
  · rw [if_pos (.inr c5)] at hM hT
    subst hM hT
    (simp -dsimp (disch := first | omega | (simp only [c1, hi, hp, c4, c5, wr_id, ei2, ei, LR] <;> omega) | fail) only [push_cast, c1, hi, hp, c4, c5, wr_id, ei2, ei, simprocAttr, -Nat.reduceSubDiff]) <;> (repeat (refine (aw_draw (by kernel_rfl)).2 ?_; simp -dsimp (disch := first | omega | (simp only [c1, hi, hp, c4, c5, wr_id, ei2, ei, LR] <;> omega) | fail) only [push_cast, c1, hi, hp, c4, c5, wr_id, ei2, ei, simprocAttr, -Nat.reduceSubDiff]))
  rw [if_neg (by rintro (q | q); exact c4 q; exact q c5)] at hM hT
  cases c6 : m.has with
  | false =>
    rw [if_pos c6] at hM hT
    subst hT
    have hpar := asc_parts q6 m.sum
    have hrk := rk_le p.N m.sum
    (simp -dsimp (disch := first | omega | (simp only [c1, hi, hp, c4, c5, c6, wr_id, ei2, ei, List.getElem?_set_self, List.set_set, LR] <;> omega) | fail) only [push_cast, c1, hi, hp, c4, c5, c6, wr_id, ei2, ei, List.getElem?_set_self, List.set_set, simprocAttr, -Nat.reduceSubDiff]) <;> (repeat (refine (aw_draw (by kernel_rfl)).2 ?_; simp -dsimp (disch := first | omega | (simp only [c1, hi, hp, c4, c5, c6, wr_id, ei2, ei, List.getElem?_set_self, List.set_set, LR] <;> omega) | fail) only [push_cast, c1, hi, hp, c4, c5, c6, wr_id, ei2, ei, List.getElem?_set_self, List.set_set, simprocAttr, -Nat.reduceSubDiff]))
    refine callC (searchStrings p.N p.ask (by omega) (c5 ▸ hpar)) ?_
    rw [c5] at hM hrk
    obtain ⟨r, hr⟩ : ∃ r, r = rk p.N p.ask := ⟨_, rfl⟩
    rw [← hr] at hrk ⊢
    have has : hasS p.N p.ask = decide (p.N[r]? = some p.ask) := by unfold hasS; rw [hr]
    have noh : hasS p.N p.ask = false → addS p.N p.ask = p.N.take r ++ p.ask :: p.N.drop r := fun e => by unfold addS; rw [e, hr]; rfl
    by_cases hh : hasS p.N p.ask = true
    · have hg : p.N[r]? = some p.ask := of_decide_eq_true (has ▸ hh)
      have hrl := (List.getElem?_eq_some_iff.1 hg).1
      have hM : M = { f with Q := f.Q.set i ⟨p.lies, 0, p.last, ⟨#[]⟩, p.N⟩ } := by
        rw [hM]; unfold notP
        have : addS p.N p.ask = p.N := by unfold addS; rw [hh]; rfl
        rw [this, if_pos q4]; rfl
      subst hM
      (simp -dsimp (disch := first | omega | (simp only [c1, hi, hp, c4, c5, c6, wr_id, ei2, ei, hg, List.getElem?_set_self, List.set_set, set_peer, LR] <;> omega) | fail) only [push_cast, c1, hi, hp, c4, c5, c6, wr_id, ei2, ei, hg, List.getElem?_set_self, List.set_set, set_peer, simprocAttr, -Nat.reduceSubDiff]) <;> (repeat (refine (aw_draw (by kernel_rfl)).2 ?_; simp -dsimp (disch := first | omega | (simp only [c1, hi, hp, c4, c5, c6, wr_id, ei2, ei, hg, List.getElem?_set_self, List.set_set, set_peer, LR] <;> omega) | fail) only [push_cast, c1, hi, hp, c4, c5, c6, wr_id, ei2, ei, hg, List.getElem?_set_self, List.set_set, set_peer, simprocAttr, -Nat.reduceSubDiff]))
    have hh : hasS p.N p.ask = false := by simpa using hh
    have hadd := noh hh
    have hal : (addS p.N p.ask).length = p.N.length + 1 := by rw [hadd, List.length_append, List.length_take, List.length_cons, List.length_drop]; omega
    have e1 : ((r : Int) + 1).toNat = r + 1 := by omega
    have e2 : ((p.N.length : Int) + 1 - ((r : Int) + 1)).toNat = p.N.length - r := by omega
    have e3 : ((p.N.length : Int) + 1 - (r : Int)).toNat = p.N.length + 1 - r := by omega
    obtain ⟨x, hx⟩ := ins_rows p.N ⟨#[]⟩ r hrk
    have hgx := mid_get (a := p.N.take r) (b := p.N.drop r) (x := x) (i := r) (by simp; omega)
    have hset := congrArg (List.map strR) (mid_set (a := p.N.take r) (b := p.N.drop r) (x := x) (y := p.ask) (i := r) (by simp; omega))
    rw [List.map_set, ← hadd] at hset
    replace hset : ((p.N.take r ++ x :: p.N.drop r).map strR).set r [.sc (.string p.ask)] = (addS p.N p.ask).map strR := hset
    have hfl : flatR (seg (p.N.map strR ++ [[.sc (.string ⟨#[]⟩)]]) r (p.N.length + 1 - r)) = true := flatR_seg (by rw [flatR_app, flat_String]; rfl) _ _
    have hlen : (p.N.map strR ++ [[AV.sc (.string ⟨#[]⟩)]]).length = p.N.length + 1 := by rw [List.length_append, List.length_map]; rfl
    have hlen2 : (p.N.take r ++ x :: p.N.drop r).length = p.N.length + 1 := by rw [List.length_append, List.length_take, List.length_cons, List.length_drop]; omega
    by_cases hfull : p.N.length ≤ 375
    · have hM : M = { f with Q := f.Q.set i ⟨p.lies, 0, p.last, ⟨#[]⟩, addS p.N p.ask⟩ } := by
        rw [hM]; unfold notP
        rw [if_pos (by omega)]; rfl
      subst hM
      by_cases hrl : r = p.N.length
      · subst hrl
        (simp -dsimp (disch := first | omega | (simp only [c1, hi, hp, c4, c5, c6, wr_id, ei2, ei, e1, e2, e3, hlen, hlen2, hx, hgx, hfl, hset, List.getElem?_set_self, List.set_set, set_peer, List.getD_eq_getElem?_getD, LR] <;> omega) | fail) only [push_cast, c1, hi, hp, c4, c5, c6, wr_id, ei2, ei, e1, e2, e3, hlen, hlen2, hx, hgx, hfl, hset, List.getElem?_set_self, List.set_set, set_peer, List.getD_eq_getElem?_getD, simprocAttr, -Nat.reduceSubDiff]) <;> (repeat (refine (aw_draw (by kernel_rfl)).2 ?_; simp -dsimp (disch := first | omega | (simp only [c1, hi, hp, c4, c5, c6, wr_id, ei2, ei, e1, e2, e3, hlen, hlen2, hx, hgx, hfl, hset, List.getElem?_set_self, List.set_set, set_peer, List.getD_eq_getElem?_getD, LR] <;> omega) | fail) only [push_cast, c1, hi, hp, c4, c5, c6, wr_id, ei2, ei, e1, e2, e3, hlen, hlen2, hx, hgx, hfl, hset, List.getElem?_set_self, List.set_set, set_peer, List.getD_eq_getElem?_getD, simprocAttr, -Nat.reduceSubDiff]))
      · obtain ⟨y, hy⟩ := ex_get (show r < p.N.length by omega)
        have hne : ¬ y = p.ask := fun e => by rw [has, hy, e] at hh; simp at hh
        (simp -dsimp (disch := first | omega | (simp only [c1, hi, hp, c4, c5, c6, wr_id, ei2, ei, hrl, hy, hne, e1, e2, e3, hlen, hlen2, hx, hgx, hfl, hset, List.getElem?_set_self, List.set_set, set_peer, List.getD_eq_getElem?_getD, LR] <;> omega) | fail) only [push_cast, c1, hi, hp, c4, c5, c6, wr_id, ei2, ei, hrl, hy, hne, e1, e2, e3, hlen, hlen2, hx, hgx, hfl, hset, List.getElem?_set_self, List.set_set, set_peer, List.getD_eq_getElem?_getD, simprocAttr, -Nat.reduceSubDiff]) <;> (repeat (refine (aw_draw (by kernel_rfl)).2 ?_; simp -dsimp (disch := first | omega | (simp only [c1, hi, hp, c4, c5, c6, wr_id, ei2, ei, hrl, hy, hne, e1, e2, e3, hlen, hlen2, hx, hgx, hfl, hset, List.getElem?_set_self, List.set_set, set_peer, List.getD_eq_getElem?_getD, LR] <;> omega) | fail) only [push_cast, c1, hi, hp, c4, c5, c6, wr_id, ei2, ei, hrl, hy, hne, e1, e2, e3, hlen, hlen2, hx, hgx, hfl, hset, List.getElem?_set_self, List.set_set, set_peer, List.getD_eq_getElem?_getD, simprocAttr, -Nat.reduceSubDiff]))
    · have hM : M = { f with Q := f.Q.set i ⟨p.lies, 0, p.last, ⟨#[]⟩, p.N⟩ } := by
        rw [hM]; unfold notP
        rw [if_neg (by omega)]; rfl
      subst hM
      by_cases hrl : r = p.N.length
      · subst hrl
        (simp -dsimp (disch := first | omega | (simp only [c1, hi, hp, c4, c5, c6, wr_id, ei2, ei, List.getElem?_set_self, List.set_set, set_peer, List.getD_eq_getElem?_getD, LR] <;> omega) | fail) only [push_cast, c1, hi, hp, c4, c5, c6, wr_id, ei2, ei, List.getElem?_set_self, List.set_set, set_peer, List.getD_eq_getElem?_getD, simprocAttr, -Nat.reduceSubDiff]) <;> (repeat (refine (aw_draw (by kernel_rfl)).2 ?_; simp -dsimp (disch := first | omega | (simp only [c1, hi, hp, c4, c5, c6, wr_id, ei2, ei, List.getElem?_set_self, List.set_set, set_peer, List.getD_eq_getElem?_getD, LR] <;> omega) | fail) only [push_cast, c1, hi, hp, c4, c5, c6, wr_id, ei2, ei, List.getElem?_set_self, List.set_set, set_peer, List.getD_eq_getElem?_getD, simprocAttr, -Nat.reduceSubDiff]))
      · obtain ⟨y, hy⟩ := ex_get (show r < p.N.length by omega)
        have hne : ¬ y = p.ask := fun e => by rw [has, hy, e] at hh; simp at hh
        (simp -dsimp (disch := first | omega | (simp only [c1, hi, hp, c4, c5, c6, wr_id, ei2, ei, hrl, hy, hne, List.getElem?_set_self, List.set_set, set_peer, List.getD_eq_getElem?_getD, LR] <;> omega) | fail) only [push_cast, c1, hi, hp, c4, c5, c6, wr_id, ei2, ei, hrl, hy, hne, List.getElem?_set_self, List.set_set, set_peer, List.getD_eq_getElem?_getD, simprocAttr, -Nat.reduceSubDiff]) <;> (repeat (refine (aw_draw (by kernel_rfl)).2 ?_; simp -dsimp (disch := first | omega | (simp only [c1, hi, hp, c4, c5, c6, wr_id, ei2, ei, hrl, hy, hne, List.getElem?_set_self, List.set_set, set_peer, List.getD_eq_getElem?_getD, LR] <;> omega) | fail) only [push_cast, c1, hi, hp, c4, c5, c6, wr_id, ei2, ei, hrl, hy, hne, List.getElem?_set_self, List.set_set, set_peer, List.getD_eq_getElem?_getD, simprocAttr, -Nat.reduceSubDiff]))
  | true =>
    rw [if_neg (by rw [c6]; simp)] at hM hT
    have hbt := hm.2
    have hbt : m.tx.size ≤ 2097152 := hbt
    unfold lieB at hM hT
    rw [c5] at hM hT
    (simp -dsimp (disch := first | omega | (simp only [c1, hi, hp, c4, c5, c6, wr_id, ei2, ei, List.getElem?_set_self, List.set_set, set_peer, LR] <;> omega) | fail) only [push_cast, c1, hi, hp, c4, c5, c6, wr_id, ei2, ei, List.getElem?_set_self, List.set_set, set_peer, simprocAttr, -Nat.reduceSubDiff]) <;> (repeat (refine (aw_draw (by kernel_rfl)).2 ?_; simp -dsimp (disch := first | omega | (simp only [c1, hi, hp, c4, c5, c6, wr_id, ei2, ei, List.getElem?_set_self, List.set_set, set_peer, LR] <;> omega) | fail) only [push_cast, c1, hi, hp, c4, c5, c6, wr_id, ei2, ei, List.getElem?_set_self, List.set_set, set_peer, simprocAttr, -Nat.reduceSubDiff]))
    refine callC (implSum m.tx f.st.w (by omega)) ?_
    have hrd := implReadList m.tx f.st.w (by omega)
    have hput := implPut f.st m.tx f.now hf.2.1 (by omega)
    have hcode := put_code f.st m.tx f.now
    generalize readL m.tx f.st.w = R at *
    generalize putF f.st m.tx f.now = A at *
    obtain ⟨l, rb⟩ := R
    obtain ⟨o, k⟩ := A
    simp only at hM hT hrd hput hcode
    obtain ⟨L, hL⟩ : ∃ L, L = (!decide (sumS m.tx f.st.w = p.ask) || (decide (p.ask = f.nm) && !rb) || decide (k = 1) || decide (k = 2)) := ⟨_, rfl⟩
    rw [← hL] at hM hT
    rw [hT]
    clear hT
    have hMt : L = true → M = { f with Q := f.Q.set i ⟨if 3 < p.lies + 1 then 3 else p.lies + 1, 0, p.last, ⟨#[]⟩, p.N⟩ } := fun e => by
      rw [hM, e]; simp [lieP]; rfl
    have hMf : L = false → M = { f with full := if k = 3 then true else f.full, st := if k = 0 then o else f.st, Q := f.Q.set i ⟨p.lies, 0, p.last, ⟨#[]⟩, p.N⟩ } := fun e => by
      rw [hM, e]; simp [lieP]; rfl
    clear hM
    by_cases s1 : sumS m.tx f.st.w = p.ask
    rotate_left
    · have hL : L = true := by rw [hL]; simp [s1]
      have hM := hMt hL
      subst hM hL
      by_cases s2 : p.ask = f.nm
      · have s1' : ¬ sumS m.tx f.st.w = f.nm := s2 ▸ s1
        (simp -dsimp (disch := first | omega | (simp only [c1, hi, hp, c4, c5, c6, s1', s2, wr_id, ei2, ei, List.getElem?_set_self, List.set_set, set_peer, LR] <;> omega) | fail) only [push_cast, c1, hi, hp, c4, c5, c6, s1', s2, wr_id, ei2, ei, List.getElem?_set_self, List.set_set, set_peer, simprocAttr, -Nat.reduceSubDiff]) <;> (repeat (refine (aw_draw (by kernel_rfl)).2 ?_; simp -dsimp (disch := first | omega | (simp only [c1, hi, hp, c4, c5, c6, s1', s2, wr_id, ei2, ei, List.getElem?_set_self, List.set_set, set_peer, LR] <;> omega) | fail) only [push_cast, c1, hi, hp, c4, c5, c6, s1', s2, wr_id, ei2, ei, List.getElem?_set_self, List.set_set, set_peer, simprocAttr, -Nat.reduceSubDiff]))
        refine callC hrd ?_
        (simp -dsimp (disch := first | omega | (simp only [c1, hi, hp, c4, c5, c6, s1', s2, wr_id, ei2, ei, List.getElem?_set_self, List.set_set, set_peer, LR] <;> omega) | fail) only [push_cast, c1, hi, hp, c4, c5, c6, s1', s2, wr_id, ei2, ei, List.getElem?_set_self, List.set_set, set_peer, simprocAttr, -Nat.reduceSubDiff]) <;> (repeat (refine (aw_draw (by kernel_rfl)).2 ?_; simp -dsimp (disch := first | omega | (simp only [c1, hi, hp, c4, c5, c6, s1', s2, wr_id, ei2, ei, List.getElem?_set_self, List.set_set, set_peer, LR] <;> omega) | fail) only [push_cast, c1, hi, hp, c4, c5, c6, s1', s2, wr_id, ei2, ei, List.getElem?_set_self, List.set_set, set_peer, simprocAttr, -Nat.reduceSubDiff]))
      · (simp -dsimp (disch := first | omega | (simp only [c1, hi, hp, c4, c5, c6, s1, s2, wr_id, ei2, ei, List.getElem?_set_self, List.set_set, set_peer, LR] <;> omega) | fail) only [push_cast, c1, hi, hp, c4, c5, c6, s1, s2, wr_id, ei2, ei, List.getElem?_set_self, List.set_set, set_peer, simprocAttr, -Nat.reduceSubDiff]) <;> (repeat (refine (aw_draw (by kernel_rfl)).2 ?_; simp -dsimp (disch := first | omega | (simp only [c1, hi, hp, c4, c5, c6, s1, s2, wr_id, ei2, ei, List.getElem?_set_self, List.set_set, set_peer, LR] <;> omega) | fail) only [push_cast, c1, hi, hp, c4, c5, c6, s1, s2, wr_id, ei2, ei, List.getElem?_set_self, List.set_set, set_peer, simprocAttr, -Nat.reduceSubDiff]))
    have fin : ∀ s2 : p.ask = f.nm → rb = true, L = (decide (k = 1) || decide (k = 2)) := fun s2 => by
      rw [hL]
      by_cases q : p.ask = f.nm
      · simp [s1, s2 q]
      · simp [s1, q]
    by_cases s2 : p.ask = f.nm
    · have s1' : sumS m.tx f.st.w = f.nm := s2 ▸ s1
      (simp -dsimp (disch := first | omega | (simp only [c1, hi, hp, c4, c5, c6, s1', s2, wr_id, ei2, ei, List.getElem?_set_self, List.set_set, set_peer, LR] <;> omega) | fail) only [push_cast, c1, hi, hp, c4, c5, c6, s1', s2, wr_id, ei2, ei, List.getElem?_set_self, List.set_set, set_peer, simprocAttr, -Nat.reduceSubDiff]) <;> (repeat (refine (aw_draw (by kernel_rfl)).2 ?_; simp -dsimp (disch := first | omega | (simp only [c1, hi, hp, c4, c5, c6, s1', s2, wr_id, ei2, ei, List.getElem?_set_self, List.set_set, set_peer, LR] <;> omega) | fail) only [push_cast, c1, hi, hp, c4, c5, c6, s1', s2, wr_id, ei2, ei, List.getElem?_set_self, List.set_set, set_peer, simprocAttr, -Nat.reduceSubDiff]))
      refine callC hrd ?_
      cases rb with
      | false =>
        have hL : L = true := by rw [hL]; simp [s1, s2]
        have hM := hMt hL
        subst hM hL
        (simp -dsimp (disch := first | omega | (simp only [c1, hi, hp, c4, c5, c6, s1', s2, wr_id, ei2, ei, List.getElem?_set_self, List.set_set, set_peer, LR] <;> omega) | fail) only [push_cast, c1, hi, hp, c4, c5, c6, s1', s2, wr_id, ei2, ei, List.getElem?_set_self, List.set_set, set_peer, simprocAttr, -Nat.reduceSubDiff]) <;> (repeat (refine (aw_draw (by kernel_rfl)).2 ?_; simp -dsimp (disch := first | omega | (simp only [c1, hi, hp, c4, c5, c6, s1', s2, wr_id, ei2, ei, List.getElem?_set_self, List.set_set, set_peer, LR] <;> omega) | fail) only [push_cast, c1, hi, hp, c4, c5, c6, s1', s2, wr_id, ei2, ei, List.getElem?_set_self, List.set_set, set_peer, simprocAttr, -Nat.reduceSubDiff]))
      | true =>
        have hLk := fin (fun _ => rfl)
        clear fin hL
        (simp -dsimp (disch := first | omega | (simp only [c1, hi, hp, c4, c5, c6, s1', s2, wr_id, ei2, ei, List.getElem?_set_self, List.set_set, set_peer, LR] <;> omega) | fail) only [push_cast, c1, hi, hp, c4, c5, c6, s1', s2, wr_id, ei2, ei, List.getElem?_set_self, List.set_set, set_peer, simprocAttr, -Nat.reduceSubDiff]) <;> (repeat (refine (aw_draw (by kernel_rfl)).2 ?_; simp -dsimp (disch := first | omega | (simp only [c1, hi, hp, c4, c5, c6, s1', s2, wr_id, ei2, ei, List.getElem?_set_self, List.set_set, set_peer, LR] <;> omega) | fail) only [push_cast, c1, hi, hp, c4, c5, c6, s1', s2, wr_id, ei2, ei, List.getElem?_set_self, List.set_set, set_peer, simprocAttr, -Nat.reduceSubDiff]))
        refine callC hput ?_
        rcases hcode with e | e | e | e
        all_goals
          subst e
          simp at hLk
          subst hLk
        · have hM := hMf rfl
          simp only [reduceIte, Int.reduceEq] at hM
          subst hM
          (simp -dsimp (disch := first | omega | (simp only [c1, hi, hp, c4, c5, c6, s1', s2, wr_id, ei2, ei, List.getElem?_set_self, List.set_set, set_peer, LR] <;> omega) | fail) only [push_cast, c1, hi, hp, c4, c5, c6, s1', s2, wr_id, ei2, ei, List.getElem?_set_self, List.set_set, set_peer, simprocAttr, -Nat.reduceSubDiff]) <;> (repeat (refine (aw_draw (by kernel_rfl)).2 ?_; simp -dsimp (disch := first | omega | (simp only [c1, hi, hp, c4, c5, c6, s1', s2, wr_id, ei2, ei, List.getElem?_set_self, List.set_set, set_peer, LR] <;> omega) | fail) only [push_cast, c1, hi, hp, c4, c5, c6, s1', s2, wr_id, ei2, ei, List.getElem?_set_self, List.set_set, set_peer, simprocAttr, -Nat.reduceSubDiff]))
        · have hM := hMt rfl
          subst hM
          (simp -dsimp (disch := first | omega | (simp only [c1, hi, hp, c4, c5, c6, s1', s2, wr_id, ei2, ei, List.getElem?_set_self, List.set_set, set_peer, LR] <;> omega) | fail) only [push_cast, c1, hi, hp, c4, c5, c6, s1', s2, wr_id, ei2, ei, List.getElem?_set_self, List.set_set, set_peer, simprocAttr, -Nat.reduceSubDiff]) <;> (repeat (refine (aw_draw (by kernel_rfl)).2 ?_; simp -dsimp (disch := first | omega | (simp only [c1, hi, hp, c4, c5, c6, s1', s2, wr_id, ei2, ei, List.getElem?_set_self, List.set_set, set_peer, LR] <;> omega) | fail) only [push_cast, c1, hi, hp, c4, c5, c6, s1', s2, wr_id, ei2, ei, List.getElem?_set_self, List.set_set, set_peer, simprocAttr, -Nat.reduceSubDiff]))
        · have hM := hMt rfl
          subst hM
          (simp -dsimp (disch := first | omega | (simp only [c1, hi, hp, c4, c5, c6, s1', s2, wr_id, ei2, ei, List.getElem?_set_self, List.set_set, set_peer, LR] <;> omega) | fail) only [push_cast, c1, hi, hp, c4, c5, c6, s1', s2, wr_id, ei2, ei, List.getElem?_set_self, List.set_set, set_peer, simprocAttr, -Nat.reduceSubDiff]) <;> (repeat (refine (aw_draw (by kernel_rfl)).2 ?_; simp -dsimp (disch := first | omega | (simp only [c1, hi, hp, c4, c5, c6, s1', s2, wr_id, ei2, ei, List.getElem?_set_self, List.set_set, set_peer, LR] <;> omega) | fail) only [push_cast, c1, hi, hp, c4, c5, c6, s1', s2, wr_id, ei2, ei, List.getElem?_set_self, List.set_set, set_peer, simprocAttr, -Nat.reduceSubDiff]))
        · have hM := hMf rfl
          simp only [reduceIte, Int.reduceEq] at hM
          subst hM
          (simp -dsimp (disch := first | omega | (simp only [c1, hi, hp, c4, c5, c6, s1', s2, wr_id, ei2, ei, List.getElem?_set_self, List.set_set, set_peer, LR] <;> omega) | fail) only [push_cast, c1, hi, hp, c4, c5, c6, s1', s2, wr_id, ei2, ei, List.getElem?_set_self, List.set_set, set_peer, simprocAttr, -Nat.reduceSubDiff]) <;> (repeat (refine (aw_draw (by kernel_rfl)).2 ?_; simp -dsimp (disch := first | omega | (simp only [c1, hi, hp, c4, c5, c6, s1', s2, wr_id, ei2, ei, List.getElem?_set_self, List.set_set, set_peer, LR] <;> omega) | fail) only [push_cast, c1, hi, hp, c4, c5, c6, s1', s2, wr_id, ei2, ei, List.getElem?_set_self, List.set_set, set_peer, simprocAttr, -Nat.reduceSubDiff]))
    · have hLk := fin (fun q => (s2 q).elim)
      clear fin hL
      (simp -dsimp (disch := first | omega | (simp only [c1, hi, hp, c4, c5, c6, s1, s2, wr_id, ei2, ei, List.getElem?_set_self, List.set_set, set_peer, LR] <;> omega) | fail) only [push_cast, c1, hi, hp, c4, c5, c6, s1, s2, wr_id, ei2, ei, List.getElem?_set_self, List.set_set, set_peer, simprocAttr, -Nat.reduceSubDiff]) <;> (repeat (refine (aw_draw (by kernel_rfl)).2 ?_; simp -dsimp (disch := first | omega | (simp only [c1, hi, hp, c4, c5, c6, s1, s2, wr_id, ei2, ei, List.getElem?_set_self, List.set_set, set_peer, LR] <;> omega) | fail) only [push_cast, c1, hi, hp, c4, c5, c6, s1, s2, wr_id, ei2, ei, List.getElem?_set_self, List.set_set, set_peer, simprocAttr, -Nat.reduceSubDiff]))
      refine callC hput ?_
      rcases hcode with e | e | e | e
      all_goals
        subst e
        simp at hLk
        subst hLk
      · have hM := hMf rfl
        simp only [reduceIte, Int.reduceEq] at hM
        subst hM
        (simp -dsimp (disch := first | omega | (simp only [c1, hi, hp, c4, c5, c6, s1, s2, wr_id, ei2, ei, List.getElem?_set_self, List.set_set, set_peer, LR] <;> omega) | fail) only [push_cast, c1, hi, hp, c4, c5, c6, s1, s2, wr_id, ei2, ei, List.getElem?_set_self, List.set_set, set_peer, simprocAttr, -Nat.reduceSubDiff]) <;> (repeat (refine (aw_draw (by kernel_rfl)).2 ?_; simp -dsimp (disch := first | omega | (simp only [c1, hi, hp, c4, c5, c6, s1, s2, wr_id, ei2, ei, List.getElem?_set_self, List.set_set, set_peer, LR] <;> omega) | fail) only [push_cast, c1, hi, hp, c4, c5, c6, s1, s2, wr_id, ei2, ei, List.getElem?_set_self, List.set_set, set_peer, simprocAttr, -Nat.reduceSubDiff]))
      · have hM := hMt rfl
        subst hM
        (simp -dsimp (disch := first | omega | (simp only [c1, hi, hp, c4, c5, c6, s1, s2, wr_id, ei2, ei, List.getElem?_set_self, List.set_set, set_peer, LR] <;> omega) | fail) only [push_cast, c1, hi, hp, c4, c5, c6, s1, s2, wr_id, ei2, ei, List.getElem?_set_self, List.set_set, set_peer, simprocAttr, -Nat.reduceSubDiff]) <;> (repeat (refine (aw_draw (by kernel_rfl)).2 ?_; simp -dsimp (disch := first | omega | (simp only [c1, hi, hp, c4, c5, c6, s1, s2, wr_id, ei2, ei, List.getElem?_set_self, List.set_set, set_peer, LR] <;> omega) | fail) only [push_cast, c1, hi, hp, c4, c5, c6, s1, s2, wr_id, ei2, ei, List.getElem?_set_self, List.set_set, set_peer, simprocAttr, -Nat.reduceSubDiff]))
      · have hM := hMt rfl
        subst hM
        (simp -dsimp (disch := first | omega | (simp only [c1, hi, hp, c4, c5, c6, s1, s2, wr_id, ei2, ei, List.getElem?_set_self, List.set_set, set_peer, LR] <;> omega) | fail) only [push_cast, c1, hi, hp, c4, c5, c6, s1, s2, wr_id, ei2, ei, List.getElem?_set_self, List.set_set, set_peer, simprocAttr, -Nat.reduceSubDiff]) <;> (repeat (refine (aw_draw (by kernel_rfl)).2 ?_; simp -dsimp (disch := first | omega | (simp only [c1, hi, hp, c4, c5, c6, s1, s2, wr_id, ei2, ei, List.getElem?_set_self, List.set_set, set_peer, LR] <;> omega) | fail) only [push_cast, c1, hi, hp, c4, c5, c6, s1, s2, wr_id, ei2, ei, List.getElem?_set_self, List.set_set, set_peer, simprocAttr, -Nat.reduceSubDiff]))
      · have hM := hMf rfl
        simp only [reduceIte, Int.reduceEq] at hM
        subst hM
        (simp -dsimp (disch := first | omega | (simp only [c1, hi, hp, c4, c5, c6, s1, s2, wr_id, ei2, ei, List.getElem?_set_self, List.set_set, set_peer, LR] <;> omega) | fail) only [push_cast, c1, hi, hp, c4, c5, c6, s1, s2, wr_id, ei2, ei, List.getElem?_set_self, List.set_set, set_peer, simprocAttr, -Nat.reduceSubDiff]) <;> (repeat (refine (aw_draw (by kernel_rfl)).2 ?_; simp -dsimp (disch := first | omega | (simp only [c1, hi, hp, c4, c5, c6, s1, s2, wr_id, ei2, ei, List.getElem?_set_self, List.set_set, set_peer, LR] <;> omega) | fail) only [push_cast, c1, hi, hp, c4, c5, c6, s1, s2, wr_id, ei2, ei, List.getElem?_set_self, List.set_set, set_peer, simprocAttr, -Nat.reduceSubDiff]))
end Go.Proofs.YtkkmgjhfjhcdmaaGreatDoor.Mx

/- A fetch takes a message: the reference. -/
namespace Go.Proofs.YtkkmgjhfjhcdmaaGreatDoor.Mx
set_option linter.all false
open Go Go.RowKit Go.Proofs
set_option linter.unusedSimpArgs false
attribute [local push_cast] E78
theorem l4AddN (l : List Str) (s : Str) (hl : l.length ≤ 2097152) (hn : hasS l s = false) (h0 : l ≠ []) : Does Tryz.prog 78 [.sl false 1 (l.map strR), .sc (.string s)] (.sl true 1 ((addS l s).map strR), []) := by
  refine does_of (E := E78) (rs := [.tmp 4]) (lent := []) tOk rfl Tryz.func78 rfl (by decide) rfl rfl (Nat.le_of_ble_eq_true rfl) (Nat.le_of_ble_eq_true rfl) ?_
  have hr := rk_le l s
  obtain ⟨M, hM⟩ : ∃ M, M = addS l s := ⟨_, rfl⟩
  rw [← hM]
  have hM2 : M = l.take (rk l s) ++ s :: l.drop (rk l s) := by rw [hM]; unfold addS; rw [hn]; rfl
  simp -dsimp (disch := first | omega | (simp only [LR] <;> omega) | fail) only [push_cast, simprocAttr, -Nat.reduceSubDiff]
  refine loop_ind (α := Nat) (fun i => i ≤ rk l s) (fun i => ⟨[(0, .sl false 1 (l.map strR)), (1, .sc (.string s)), (5, .sc (.int .i64 i))], [], 1⟩) (fun i => rk l s - i) 0 (Nat.zero_le _) ?_ ?_
  · simp -dsimp (disch := first | omega | (simp only [LR] <;> omega) | fail) only [push_cast, simprocAttr, -Nat.reduceSubDiff]
  intro i hi ih
  by_cases h : i < l.length
  · obtain ⟨x, hx⟩ := ex_get h
    have hne : (l.map strR).isEmpty = false := by cases l <;> simp at h ⊢
    cases e : lts x s with
    | true =>
      have := rk_step hi hx e
      simp -dsimp (disch := first | omega | (simp only [hx, e, LR] <;> omega) | fail) only [push_cast, hx, e, simprocAttr, -Nat.reduceSubDiff]
      refine ih (i + 1) _ (by omega) this ?_
      simp -dsimp (disch := first | omega | (simp only [wr_id, LR] <;> omega) | fail) only [push_cast, wr_id, simprocAttr, -Nat.reduceSubDiff]
    | false =>
      have hk : i = rk l s := by
        rcases Nat.lt_or_eq_of_le hi with h | h
        · obtain ⟨y, hy, hy2⟩ := rk_all h
          rw [hx] at hy; cases hy; rw [e] at hy2; cases hy2
        · exact h
      have e2 : ¬ x = s := fun q => by
        unfold hasS at hn
        rw [← hk, hx, q] at hn
        simp at hn
      rw [← hk] at hM2
      (simp -dsimp (disch := first | omega | (simp only [hx, e, e2, hne, seg_tk, seg_dr, LR] <;> omega) | fail) only [push_cast, hx, e, e2, hne, seg_tk, seg_dr, simprocAttr, -Nat.reduceSubDiff]) <;> (repeat (refine (aw_draw (by kernel_rfl)).2 ?_; simp -dsimp (disch := first | omega | (simp only [hx, e, e2, hne, seg_tk, seg_dr, LR] <;> omega) | fail) only [push_cast, hx, e, e2, hne, seg_tk, seg_dr, simprocAttr, -Nat.reduceSubDiff]))
      simp [hM2, strR]
  · have hk : i = l.length := by omega
    have hM3 : M = l ++ [s] := by
      rw [hM2, ← show l.length = rk l s by omega]; simp
    subst hk
    have hne : (l.map strR).isEmpty = false := by cases l <;> simp at h0 ⊢
    (simp -dsimp (disch := first | omega | (simp only [hne, seg_tk, seg_dr, LR] <;> omega) | fail) only [push_cast, hne, seg_tk, seg_dr, simprocAttr, -Nat.reduceSubDiff]) <;> (repeat (refine (aw_draw (by kernel_rfl)).2 ?_; simp -dsimp (disch := first | omega | (simp only [hne, seg_tk, seg_dr, LR] <;> omega) | fail) only [push_cast, hne, seg_tk, seg_dr, simprocAttr, -Nat.reduceSubDiff]))
    simp [hM3, strR]
def E43 : Env := { T := T0, kp := look [(0, [0, 1]), (1, [2, 3, 4]), (2, [4]), (3, [2, 3, 4]), (4, [2, 3, 4, 5]), (5, [4, 5]), (6, [2, 3, 4, 5]), (7, [2, 3, 4, 5, 6]), (8, [4, 5]), (9, [2, 3, 4, 5, 6]), (10, [2, 3, 4, 5, 6]), (11, [2, 3, 4, 5, 6]), (12, [3, 4, 5, 6]), (13, [3, 4, 5, 6, 7]), (14, [3, 4, 5, 6, 7]), (15, [3, 4, 5, 6]), (16, [4, 5]), (17, [2, 3, 4, 5, 6]), (18, [2, 3, 4, 5, 6, 9]), (19, [3, 4, 5, 6, 10]), (20, [2, 3, 4, 5, 6, 9, 10, 11]), (21, [3, 4, 5, 6]), (22, [3, 4, 5, 6, 10, 11]), (23, [3, 4, 5, 6]), (24, [3, 4, 5, 6]), (25, [3, 4, 5, 6]), (26, [3, 4, 5, 6]), (27, [4, 5])], dp := look2 [(20, [[], [0], [], [2], [2, 3], [0, 1, 2, 3, 4], [], [6], [0, 1, 2, 3, 4, 5, 6, 7], [0, 1, 2, 3, 4, 5, 6, 7, 8], [0, 1, 2, 3, 4, 5, 6, 7, 8, 9], [0, 1, 2, 3, 4, 5, 6, 7, 8, 9, 10], [0, 1, 2, 3, 4, 5, 6, 7, 8, 9], [0, 1, 2, 3, 4, 5, 6, 7, 8, 9, 12], [0, 1, 2, 3, 4, 5, 6, 7, 8, 9, 10, 11, 12, 13], [0, 1, 2, 3, 4, 5, 6, 7, 8, 9, 10, 11, 12, 13, 14], [0, 1, 2, 3, 4, 5, 6, 7, 8, 9, 10, 11, 12, 13, 14, 15], [0, 1, 2, 3, 4, 5, 6, 7, 8, 9, 10, 11, 12, 13, 14, 15, 16], [0, 1, 2, 3, 4, 5, 6, 7, 8, 9, 10, 11, 12, 13, 14, 15, 16, 17], [0, 1, 2, 3, 4, 5, 6, 7, 8, 9, 10, 11, 12, 13, 14, 15, 16, 17, 18], [0, 1, 2, 3, 4, 5, 6, 7, 8, 9, 10, 11, 12, 13, 14, 15, 16, 17, 18, 19], [0, 1, 2, 3, 4, 5, 6, 7, 8, 9, 10, 11, 12, 13, 14, 15, 16, 17, 18, 19, 20], [0, 1, 2, 3, 4, 5, 6, 7, 8, 9, 10, 11, 12, 13, 14, 15, 16, 17, 18, 19, 20, 21], [0, 1, 2, 3, 4, 5, 6, 7, 8, 9, 10, 11, 12, 13, 14, 15, 16, 17, 18, 19, 20, 21, 22], [0, 1, 2, 3, 4, 5, 6, 7, 8, 9, 10, 11, 12, 13, 14, 15, 16, 17, 18, 19, 20, 21, 22, 23], [0, 1, 2, 3, 4, 5, 6, 7, 8, 9, 10, 11, 12, 13, 14, 15, 16, 17, 18, 19, 20, 21, 22, 23, 24], [0, 1, 2, 3, 4, 5, 6, 7, 8, 9, 10, 11, 12, 13, 14, 15, 16, 17, 18, 19, 20, 21, 22, 23, 24, 25], [0, 1, 2, 3, 4, 5, 6, 7, 8, 9, 10, 11, 12, 13, 14, 15, 16, 17, 18, 19, 20, 21, 22, 23, 24, 25, 26], [0, 1, 2, 3, 4, 5, 6, 7, 8, 9, 10, 11, 12, 13, 14, 15, 16, 17, 18, 19, 20, 21, 22, 23, 24, 25, 26, 27]])], fz := look [(12, [6])], md := look3 [(12, 4, [2])] }
attribute [local push_cast] E43
def E43n : Env := { E43 with md := fun _ _ => [], fz := fun _ => [] }
attribute [local push_cast] E43n
theorem notP_fit {p : Peer} {u : Str} (h : (addS p.N u).length ≤ 376) : notP p u = ⟨p.lies, 0, p.last, ⟨#[]⟩, addS p.N u⟩ := by
  unfold notP; rw [if_pos h]; rfl
theorem notP_full {p : Peer} {u : Str} (h : ¬ (addS p.N u).length ≤ 376) : notP p u = ⟨p.lies, 0, p.last, ⟨#[]⟩, p.N⟩ := by
  unfold notP; rw [if_neg h]; rfl
set_option maxRecDepth 20000 in
set_option maxHeartbeats 4000000 in
theorem specFetchTake (f : Fetch) (m : Message) (hf : okFetch f) (hm : okMessage m) : Does Tryz.prog 43 [.ag (fetchC false f), .ag (messageC false m)] (.ag (fetchC true (ftakeF f m)), []) := by
  obtain ⟨M, hM⟩ : ∃ M, M = ftakeF f m := ⟨_, rfl⟩
  rw [← hM]
  have hQl := hf.2.2.1
  have hIl := hf.2.1.1.1
  have hPl := hf.2.1.2.1
  unfold ftakeF at hM
  cases hv : validF f with
  | false =>
    rw [if_neg (by rw [hv]; simp)] at hM
    subst hM
    refine does_of (E := E43) (rs := [.cell 4 53]) (lent := []) tOk rfl Tryz.func43 rfl (by decide) rfl rfl (Nat.le_of_ble_eq_true rfl) (Nat.le_of_ble_eq_true rfl) ?_
    (simp -dsimp (disch := first | omega | (simp only [LR] <;> omega) | fail) only [push_cast, simprocAttr, -Nat.reduceSubDiff]) <;> (repeat (refine (aw_draw (by kernel_rfl)).2 ?_; simp -dsimp (disch := first | omega | (simp only [LR] <;> omega) | fail) only [push_cast, simprocAttr, -Nat.reduceSubDiff]))
    refine callC (specValidFetch f hf) ?_
    rw [hv]
    (simp -dsimp (disch := first | omega | (simp only [LR] <;> omega) | fail) only [push_cast, simprocAttr, -Nat.reduceSubDiff]) <;> (repeat (refine (aw_draw (by kernel_rfl)).2 ?_; simp -dsimp (disch := first | omega | (simp only [LR] <;> omega) | fail) only [push_cast, simprocAttr, -Nat.reduceSubDiff]))
    rfl
  | true =>
  rw [if_pos hv] at hM
  have hvd := specValidFetch f hf
  rw [hv] at hvd
  by_cases c1 : m.to = 0
  rotate_left
  · rw [(take_out (f := f) (m := m) (.inl c1)).1] at hM
    replace hM := hM.symm
    subst hM
    refine does_of (E := E43) (rs := [.cell 4 53]) (lent := []) tOk rfl Tryz.func43 rfl (by decide) rfl rfl (Nat.le_of_ble_eq_true rfl) (Nat.le_of_ble_eq_true rfl) ?_
    (simp -dsimp (disch := first | omega | (simp only [LR] <;> omega) | fail) only [push_cast, simprocAttr, -Nat.reduceSubDiff]) <;> (repeat (refine (aw_draw (by kernel_rfl)).2 ?_; simp -dsimp (disch := first | omega | (simp only [LR] <;> omega) | fail) only [push_cast, simprocAttr, -Nat.reduceSubDiff]))
    refine callC hvd ?_
    (simp -dsimp (disch := first | omega | (simp only [LR] <;> omega) | fail) only [push_cast, simprocAttr, -Nat.reduceSubDiff]) <;> (repeat (refine (aw_draw (by kernel_rfl)).2 ?_; simp -dsimp (disch := first | omega | (simp only [LR] <;> omega) | fail) only [push_cast, simprocAttr, -Nat.reduceSubDiff]))
    refine callC (l7Copy f hf) ?_
    (simp -dsimp (disch := first | omega | (simp only [c1, LR] <;> omega) | fail) only [push_cast, c1, simprocAttr, -Nat.reduceSubDiff]) <;> (repeat (refine (aw_draw (by kernel_rfl)).2 ?_; simp -dsimp (disch := first | omega | (simp only [c1, LR] <;> omega) | fail) only [push_cast, c1, simprocAttr, -Nat.reduceSubDiff]))
  have hin : inB m.fr 1 f.Q.length = decide (1 ≤ m.fr ∧ m.fr ≤ f.Q.length) := rfl
  by_cases c2 : 1 ≤ m.fr ∧ m.fr ≤ f.Q.length
  rotate_left
  · rw [(take_out (f := f) (m := m) (by omega)).1] at hM
    replace hM := hM.symm
    subst hM
    refine does_of (E := E43) (rs := [.cell 4 53]) (lent := []) tOk rfl Tryz.func43 rfl (by decide) rfl rfl (Nat.le_of_ble_eq_true rfl) (Nat.le_of_ble_eq_true rfl) ?_
    (simp -dsimp (disch := first | omega | (simp only [LR] <;> omega) | fail) only [push_cast, simprocAttr, -Nat.reduceSubDiff]) <;> (repeat (refine (aw_draw (by kernel_rfl)).2 ?_; simp -dsimp (disch := first | omega | (simp only [LR] <;> omega) | fail) only [push_cast, simprocAttr, -Nat.reduceSubDiff]))
    refine callC hvd ?_
    (simp -dsimp (disch := first | omega | (simp only [LR] <;> omega) | fail) only [push_cast, simprocAttr, -Nat.reduceSubDiff]) <;> (repeat (refine (aw_draw (by kernel_rfl)).2 ?_; simp -dsimp (disch := first | omega | (simp only [LR] <;> omega) | fail) only [push_cast, simprocAttr, -Nat.reduceSubDiff]))
    refine callC (l7Copy f hf) ?_
    (simp -dsimp (disch := first | omega | (simp only [c1, LR] <;> omega) | fail) only [push_cast, c1, simprocAttr, -Nat.reduceSubDiff]) <;> (repeat (refine (aw_draw (by kernel_rfl)).2 ?_; simp -dsimp (disch := first | omega | (simp only [c1, LR] <;> omega) | fail) only [push_cast, c1, simprocAttr, -Nat.reduceSubDiff]))
    refine callC (l1In ..) ?_
    rw [hin]
    (simp -dsimp (disch := first | omega | (simp only [c1, c2, LR] <;> omega) | fail) only [push_cast, c1, c2, simprocAttr, -Nat.reduceSubDiff]) <;> (repeat (refine (aw_draw (by kernel_rfl)).2 ?_; simp -dsimp (disch := first | omega | (simp only [c1, c2, LR] <;> omega) | fail) only [push_cast, c1, c2, simprocAttr, -Nat.reduceSubDiff]))
  obtain ⟨i, hi⟩ : ∃ i : Nat, m.fr = (i : Int) + 1 := ⟨(m.fr - 1).toNat, by omega⟩
  obtain ⟨p, hp⟩ := ex_get (show i < f.Q.length by omega)
  obtain ⟨e1, _⟩ := take_in c1 hi hp
  rw [e1] at hM
  clear e1
  have ei : ((i : Int) + 1 - 1).toNat = i := by omega
  have ei2 : (i : Int) + 1 - 1 = i := by omega
  have hil : i < f.Q.length := by omega
  obtain ⟨q1, q2, q3, q4, q5, q6⟩ := peer_up (peer_of hv hp)
  have hb : inB ((i : Int) + 1) 1 f.Q.length = true := decide_eq_true (by omega)
  by_cases c4 : p.wait = 0
  · rw [if_pos (.inl c4)] at hM
    replace hM := hM.symm
    subst hM
    refine does_of (E := E43) (rs := [.cell 4 53]) (lent := []) tOk rfl Tryz.func43 rfl (by decide) rfl rfl (Nat.le_of_ble_eq_true rfl) (Nat.le_of_ble_eq_true rfl) ?_
    (simp -dsimp (disch := first | omega | (simp only [LR] <;> omega) | fail) only [push_cast, simprocAttr, -Nat.reduceSubDiff]) <;> (repeat (refine (aw_draw (by kernel_rfl)).2 ?_; simp -dsimp (disch := first | omega | (simp only [LR] <;> omega) | fail) only [push_cast, simprocAttr, -Nat.reduceSubDiff]))
    refine callC hvd ?_
    (simp -dsimp (disch := first | omega | (simp only [LR] <;> omega) | fail) only [push_cast, simprocAttr, -Nat.reduceSubDiff]) <;> (repeat (refine (aw_draw (by kernel_rfl)).2 ?_; simp -dsimp (disch := first | omega | (simp only [LR] <;> omega) | fail) only [push_cast, simprocAttr, -Nat.reduceSubDiff]))
    refine callC (l7Copy f hf) ?_
    (simp -dsimp (disch := first | omega | (simp only [c1, hi, LR] <;> omega) | fail) only [push_cast, c1, hi, simprocAttr, -Nat.reduceSubDiff]) <;> (repeat (refine (aw_draw (by kernel_rfl)).2 ?_; simp -dsimp (disch := first | omega | (simp only [c1, hi, LR] <;> omega) | fail) only [push_cast, c1, hi, simprocAttr, -Nat.reduceSubDiff]))
    refine callC (l1In ..) ?_
    rw [hb]
    (simp -dsimp (disch := first | omega | (simp only [c1, hi, hp, c4, wr_id, ei2, ei, LR] <;> omega) | fail) only [push_cast, c1, hi, hp, c4, wr_id, ei2, ei, simprocAttr, -Nat.reduceSubDiff]) <;> (repeat (refine (aw_draw (by kernel_rfl)).2 ?_; simp -dsimp (disch := first | omega | (simp only [c1, hi, hp, c4, wr_id, ei2, ei, LR] <;> omega) | fail) only [push_cast, c1, hi, hp, c4, wr_id, ei2, ei, simprocAttr, -Nat.reduceSubDiff]))
  by_cases c5 : m.sum = p.ask
  rotate_left
  · rw [if_pos (.inr c5)] at hM
    replace hM := hM.symm
    subst hM
    have c5' : ¬ p.ask = m.sum := fun e => c5 e.symm
    refine does_of (E := E43) (rs := [.cell 4 53]) (lent := []) tOk rfl Tryz.func43 rfl (by decide) rfl rfl (Nat.le_of_ble_eq_true rfl) (Nat.le_of_ble_eq_true rfl) ?_
    (simp -dsimp (disch := first | omega | (simp only [LR] <;> omega) | fail) only [push_cast, simprocAttr, -Nat.reduceSubDiff]) <;> (repeat (refine (aw_draw (by kernel_rfl)).2 ?_; simp -dsimp (disch := first | omega | (simp only [LR] <;> omega) | fail) only [push_cast, simprocAttr, -Nat.reduceSubDiff]))
    refine callC hvd ?_
    (simp -dsimp (disch := first | omega | (simp only [LR] <;> omega) | fail) only [push_cast, simprocAttr, -Nat.reduceSubDiff]) <;> (repeat (refine (aw_draw (by kernel_rfl)).2 ?_; simp -dsimp (disch := first | omega | (simp only [LR] <;> omega) | fail) only [push_cast, simprocAttr, -Nat.reduceSubDiff]))
    refine callC (l7Copy f hf) ?_
    (simp -dsimp (disch := first | omega | (simp only [c1, hi, LR] <;> omega) | fail) only [push_cast, c1, hi, simprocAttr, -Nat.reduceSubDiff]) <;> (repeat (refine (aw_draw (by kernel_rfl)).2 ?_; simp -dsimp (disch := first | omega | (simp only [c1, hi, LR] <;> omega) | fail) only [push_cast, c1, hi, simprocAttr, -Nat.reduceSubDiff]))
    refine callC (l1In ..) ?_
    rw [hb]
    (simp -dsimp (disch := first | omega | (simp only [c1, hi, hp, c4, c5', wr_id, ei2, ei, LR] <;> omega) | fail) only [push_cast, c1, hi, hp, c4, c5', wr_id, ei2, ei, simprocAttr, -Nat.reduceSubDiff]) <;> (repeat (refine (aw_draw (by kernel_rfl)).2 ?_; simp -dsimp (disch := first | omega | (simp only [c1, hi, hp, c4, c5', wr_id, ei2, ei, LR] <;> omega) | fail) only [push_cast, c1, hi, hp, c4, c5', wr_id, ei2, ei, simprocAttr, -Nat.reduceSubDiff]))
  rw [if_neg (by rintro (q | q); exact c4 q; exact q c5)] at hM
  cases c6 : m.has with
  | false =>
    rw [if_pos c6, c5] at hM
    by_cases hfit : (addS p.N p.ask).length ≤ 376
    · rw [notP_fit hfit] at hM
      subst hM
      refine does_of (E := E43) (rs := [.cell 4 53]) (lent := []) tOk rfl Tryz.func43 rfl (by decide) rfl rfl (Nat.le_of_ble_eq_true rfl) (Nat.le_of_ble_eq_true rfl) ?_
      (simp -dsimp (disch := first | omega | (simp only [LR] <;> omega) | fail) only [push_cast, simprocAttr, -Nat.reduceSubDiff]) <;> (repeat (refine (aw_draw (by kernel_rfl)).2 ?_; simp -dsimp (disch := first | omega | (simp only [LR] <;> omega) | fail) only [push_cast, simprocAttr, -Nat.reduceSubDiff]))
      refine callC hvd ?_
      (simp -dsimp (disch := first | omega | (simp only [LR] <;> omega) | fail) only [push_cast, simprocAttr, -Nat.reduceSubDiff]) <;> (repeat (refine (aw_draw (by kernel_rfl)).2 ?_; simp -dsimp (disch := first | omega | (simp only [LR] <;> omega) | fail) only [push_cast, simprocAttr, -Nat.reduceSubDiff]))
      refine callC (l7Copy f hf) ?_
      (simp -dsimp (disch := first | omega | (simp only [c1, hi, LR] <;> omega) | fail) only [push_cast, c1, hi, simprocAttr, -Nat.reduceSubDiff]) <;> (repeat (refine (aw_draw (by kernel_rfl)).2 ?_; simp -dsimp (disch := first | omega | (simp only [c1, hi, LR] <;> omega) | fail) only [push_cast, c1, hi, simprocAttr, -Nat.reduceSubDiff]))
      refine callC (l1In ..) ?_
      rw [hb]
      (simp -dsimp (disch := first | omega | (simp only [c1, hi, hp, c4, c5, c6, wr_id, ei2, ei, List.getD_eq_getElem?_getD, LR] <;> omega) | fail) only [push_cast, c1, hi, hp, c4, c5, c6, wr_id, ei2, ei, List.getD_eq_getElem?_getD, simprocAttr, -Nat.reduceSubDiff]) <;> (repeat (refine (aw_draw (by kernel_rfl)).2 ?_; simp -dsimp (disch := first | omega | (simp only [c1, hi, hp, c4, c5, c6, wr_id, ei2, ei, List.getD_eq_getElem?_getD, LR] <;> omega) | fail) only [push_cast, c1, hi, hp, c4, c5, c6, wr_id, ei2, ei, List.getD_eq_getElem?_getD, simprocAttr, -Nat.reduceSubDiff]))
      refine callC (l4Add p.N p.ask (by omega)) ?_
      (simp -dsimp (disch := first | omega | (simp only [c1, hi, hp, c4, c5, c6, wr_id, ei2, ei, List.getElem?_set_self, List.set_set, set_peer, List.getD_eq_getElem?_getD, LR] <;> omega) | fail) only [push_cast, c1, hi, hp, c4, c5, c6, wr_id, ei2, ei, List.getElem?_set_self, List.set_set, set_peer, List.getD_eq_getElem?_getD, simprocAttr, -Nat.reduceSubDiff]) <;> (repeat (refine (aw_draw (by kernel_rfl)).2 ?_; simp -dsimp (disch := first | omega | (simp only [c1, hi, hp, c4, c5, c6, wr_id, ei2, ei, List.getElem?_set_self, List.set_set, set_peer, List.getD_eq_getElem?_getD, LR] <;> omega) | fail) only [push_cast, c1, hi, hp, c4, c5, c6, wr_id, ei2, ei, List.getElem?_set_self, List.set_set, set_peer, List.getD_eq_getElem?_getD, simprocAttr, -Nat.reduceSubDiff]))
    · rw [notP_full hfit] at hM
      subst hM
      have hnh : hasS p.N p.ask = false := by
        cases q : hasS p.N p.ask with
        | false => rfl
        | true => exact (hfit (by unfold addS; rw [q]; exact q4)).elim
      have hal := addS_len1 p.N p.ask
      refine does_of (E := E43n) (rs := [.cell 4 53]) (lent := []) tOk rfl Tryz.func43 rfl (by decide) rfl rfl (Nat.le_of_ble_eq_true rfl) (Nat.le_of_ble_eq_true rfl) ?_
      (simp -dsimp (disch := first | omega | (simp only [LR] <;> omega) | fail) only [push_cast, simprocAttr, -Nat.reduceSubDiff]) <;> (repeat (refine (aw_draw (by kernel_rfl)).2 ?_; simp -dsimp (disch := first | omega | (simp only [LR] <;> omega) | fail) only [push_cast, simprocAttr, -Nat.reduceSubDiff]))
      refine callC hvd ?_
      (simp -dsimp (disch := first | omega | (simp only [LR] <;> omega) | fail) only [push_cast, simprocAttr, -Nat.reduceSubDiff]) <;> (repeat (refine (aw_draw (by kernel_rfl)).2 ?_; simp -dsimp (disch := first | omega | (simp only [LR] <;> omega) | fail) only [push_cast, simprocAttr, -Nat.reduceSubDiff]))
      refine callC (l7Copy f hf) ?_
      (simp -dsimp (disch := first | omega | (simp only [c1, hi, LR] <;> omega) | fail) only [push_cast, c1, hi, simprocAttr, -Nat.reduceSubDiff]) <;> (repeat (refine (aw_draw (by kernel_rfl)).2 ?_; simp -dsimp (disch := first | omega | (simp only [c1, hi, LR] <;> omega) | fail) only [push_cast, c1, hi, simprocAttr, -Nat.reduceSubDiff]))
      refine callC (l1In ..) ?_
      rw [hb]
      (simp -dsimp (disch := first | omega | (simp only [c1, hi, hp, c4, c5, c6, wr_id, ei2, ei, LR] <;> omega) | fail) only [push_cast, c1, hi, hp, c4, c5, c6, wr_id, ei2, ei, simprocAttr, -Nat.reduceSubDiff]) <;> (repeat (refine (aw_draw (by kernel_rfl)).2 ?_; simp -dsimp (disch := first | omega | (simp only [c1, hi, hp, c4, c5, c6, wr_id, ei2, ei, LR] <;> omega) | fail) only [push_cast, c1, hi, hp, c4, c5, c6, wr_id, ei2, ei, simprocAttr, -Nat.reduceSubDiff]))
      refine callC (l4AddN p.N p.ask (by omega) hnh (fun e => by rw [e] at hal hfit; simp at hal; omega)) ?_
      (simp -dsimp (disch := first | omega | (simp only [c1, hi, hp, c4, c5, c6, wr_id, ei2, ei, List.getElem?_set_self, List.set_set, set_peer, List.getD_eq_getElem?_getD, LR] <;> omega) | fail) only [push_cast, c1, hi, hp, c4, c5, c6, wr_id, ei2, ei, List.getElem?_set_self, List.set_set, set_peer, List.getD_eq_getElem?_getD, simprocAttr, -Nat.reduceSubDiff]) <;> (repeat (refine (aw_draw (by kernel_rfl)).2 ?_; simp -dsimp (disch := first | omega | (simp only [c1, hi, hp, c4, c5, c6, wr_id, ei2, ei, List.getElem?_set_self, List.set_set, set_peer, List.getD_eq_getElem?_getD, LR] <;> omega) | fail) only [push_cast, c1, hi, hp, c4, c5, c6, wr_id, ei2, ei, List.getElem?_set_self, List.set_set, set_peer, List.getD_eq_getElem?_getD, simprocAttr, -Nat.reduceSubDiff]))
  | true =>
    rw [if_neg (by rw [c6]; simp)] at hM
    have hbt : m.tx.size ≤ 2097152 := hm.2
    unfold lieB at hM
    rw [c5] at hM
    have hrd := specReadList m.tx f.st.w (by omega)
    have hput := specPut f.st m.tx f.now hf.2.1 (by omega)
    have hcode := put_code f.st m.tx f.now
    generalize readL m.tx f.st.w = R at *
    generalize putF f.st m.tx f.now = A at *
    obtain ⟨l, rb⟩ := R
    obtain ⟨o, k⟩ := A
    simp only at hM hrd hput hcode
    obtain ⟨L, hL⟩ : ∃ L, L = (!decide (sumS m.tx f.st.w = p.ask) || (decide (p.ask = f.nm) && !rb) || decide (k = 1) || decide (k = 2)) := ⟨_, rfl⟩
    rw [← hL] at hM
    have hMt : L = true → M = { f with Q := f.Q.set i ⟨if 3 < p.lies + 1 then 3 else p.lies + 1, 0, p.last, ⟨#[]⟩, p.N⟩ } := fun e => by
      rw [hM, e]; simp [lieP]; rfl
    have hMf : L = false → M = { f with full := if k = 3 then true else f.full, st := if k = 0 then o else f.st, Q := f.Q.set i ⟨p.lies, 0, p.last, ⟨#[]⟩, p.N⟩ } := fun e => by
      rw [hM, e]; simp [lieP]; rfl
    clear hM
    have l3 : ¬ 3 < p.lies := by omega
    refine does_of (E := E43) (rs := [.cell 4 53]) (lent := []) tOk rfl Tryz.func43 rfl (by decide) rfl rfl (Nat.le_of_ble_eq_true rfl) (Nat.le_of_ble_eq_true rfl) ?_
    (simp -dsimp (disch := first | omega | (simp only [LR] <;> omega) | fail) only [push_cast, simprocAttr, -Nat.reduceSubDiff]) <;> (repeat (refine (aw_draw (by kernel_rfl)).2 ?_; simp -dsimp (disch := first | omega | (simp only [LR] <;> omega) | fail) only [push_cast, simprocAttr, -Nat.reduceSubDiff]))
    refine callC hvd ?_
    (simp -dsimp (disch := first | omega | (simp only [LR] <;> omega) | fail) only [push_cast, simprocAttr, -Nat.reduceSubDiff]) <;> (repeat (refine (aw_draw (by kernel_rfl)).2 ?_; simp -dsimp (disch := first | omega | (simp only [LR] <;> omega) | fail) only [push_cast, simprocAttr, -Nat.reduceSubDiff]))
    refine callC (l7Copy f hf) ?_
    (simp -dsimp (disch := first | omega | (simp only [c1, hi, LR] <;> omega) | fail) only [push_cast, c1, hi, simprocAttr, -Nat.reduceSubDiff]) <;> (repeat (refine (aw_draw (by kernel_rfl)).2 ?_; simp -dsimp (disch := first | omega | (simp only [c1, hi, LR] <;> omega) | fail) only [push_cast, c1, hi, simprocAttr, -Nat.reduceSubDiff]))
    refine callC (l1In ..) ?_
    rw [hb]
    (simp -dsimp (disch := first | omega | (simp only [c1, hi, hp, c4, c5, c6, wr_id, ei2, ei, LR] <;> omega) | fail) only [push_cast, c1, hi, hp, c4, c5, c6, wr_id, ei2, ei, simprocAttr, -Nat.reduceSubDiff]) <;> (repeat (refine (aw_draw (by kernel_rfl)).2 ?_; simp -dsimp (disch := first | omega | (simp only [c1, hi, hp, c4, c5, c6, wr_id, ei2, ei, LR] <;> omega) | fail) only [push_cast, c1, hi, hp, c4, c5, c6, wr_id, ei2, ei, simprocAttr, -Nat.reduceSubDiff]))
    refine callC hrd ?_
    (simp -dsimp (disch := first | omega | (simp only [c1, hi, hp, c4, c5, c6, wr_id, ei2, ei, LR] <;> omega) | fail) only [push_cast, c1, hi, hp, c4, c5, c6, wr_id, ei2, ei, simprocAttr, -Nat.reduceSubDiff]) <;> (repeat (refine (aw_draw (by kernel_rfl)).2 ?_; simp -dsimp (disch := first | omega | (simp only [c1, hi, hp, c4, c5, c6, wr_id, ei2, ei, LR] <;> omega) | fail) only [push_cast, c1, hi, hp, c4, c5, c6, wr_id, ei2, ei, simprocAttr, -Nat.reduceSubDiff]))
    refine callC hput ?_
    (simp -dsimp (disch := first | omega | (simp only [c1, hi, hp, c4, c5, c6, wr_id, ei2, ei, LR] <;> omega) | fail) only [push_cast, c1, hi, hp, c4, c5, c6, wr_id, ei2, ei, simprocAttr, -Nat.reduceSubDiff]) <;> (repeat (refine (aw_draw (by kernel_rfl)).2 ?_; simp -dsimp (disch := first | omega | (simp only [c1, hi, hp, c4, c5, c6, wr_id, ei2, ei, LR] <;> omega) | fail) only [push_cast, c1, hi, hp, c4, c5, c6, wr_id, ei2, ei, simprocAttr, -Nat.reduceSubDiff]))
    refine callC (specSum m.tx f.st.w (by omega)) ?_
    by_cases s1 : sumS m.tx f.st.w = p.ask
    rotate_left
    · have hL : L = true := by rw [hL]; simp [s1]
      have hM := hMt hL
      subst hM hL
      by_cases s3 : 3 < p.lies + 1
      · (simp -dsimp (disch := first | omega | (simp only [c1, hi, hp, c4, c5, c6, s1, s3, wr_id, ei2, ei, List.getElem?_set_self, List.set_set, set_peer, LR] <;> omega) | fail) only [push_cast, c1, hi, hp, c4, c5, c6, s1, s3, wr_id, ei2, ei, List.getElem?_set_self, List.set_set, set_peer, simprocAttr, -Nat.reduceSubDiff]) <;> (repeat (refine (aw_draw (by kernel_rfl)).2 ?_; simp -dsimp (disch := first | omega | (simp only [c1, hi, hp, c4, c5, c6, s1, s3, wr_id, ei2, ei, List.getElem?_set_self, List.set_set, set_peer, LR] <;> omega) | fail) only [push_cast, c1, hi, hp, c4, c5, c6, s1, s3, wr_id, ei2, ei, List.getElem?_set_self, List.set_set, set_peer, simprocAttr, -Nat.reduceSubDiff]))
      · (simp -dsimp (disch := first | omega | (simp only [c1, hi, hp, c4, c5, c6, s1, s3, wr_id, ei2, ei, List.getElem?_set_self, List.set_set, set_peer, LR] <;> omega) | fail) only [push_cast, c1, hi, hp, c4, c5, c6, s1, s3, wr_id, ei2, ei, List.getElem?_set_self, List.set_set, set_peer, simprocAttr, -Nat.reduceSubDiff]) <;> (repeat (refine (aw_draw (by kernel_rfl)).2 ?_; simp -dsimp (disch := first | omega | (simp only [c1, hi, hp, c4, c5, c6, s1, s3, wr_id, ei2, ei, List.getElem?_set_self, List.set_set, set_peer, LR] <;> omega) | fail) only [push_cast, c1, hi, hp, c4, c5, c6, s1, s3, wr_id, ei2, ei, List.getElem?_set_self, List.set_set, set_peer, simprocAttr, -Nat.reduceSubDiff]))
    have fin : ∀ s2 : p.ask = f.nm → rb = true, L = (decide (k = 1) || decide (k = 2)) := fun s2 => by
      rw [hL]
      by_cases q : p.ask = f.nm
      · simp [s1, s2 q]
      · simp [s1, q]
    by_cases s4 : p.ask = f.nm ∧ rb = false
    · obtain ⟨s2, rfl⟩ := s4
      have s1' : sumS m.tx f.st.w = f.nm := s2 ▸ s1
      have hL : L = true := by rw [hL]; simp [s1, s2]
      have hM := hMt hL
      subst hM hL
      by_cases s3 : 3 < p.lies + 1
      · (simp -dsimp (disch := first | omega | (simp only [c1, hi, hp, c4, c5, c6, s1', s2, s3, wr_id, ei2, ei, List.getElem?_set_self, List.set_set, set_peer, LR] <;> omega) | fail) only [push_cast, c1, hi, hp, c4, c5, c6, s1', s2, s3, wr_id, ei2, ei, List.getElem?_set_self, List.set_set, set_peer, simprocAttr, -Nat.reduceSubDiff]) <;> (repeat (refine (aw_draw (by kernel_rfl)).2 ?_; simp -dsimp (disch := first | omega | (simp only [c1, hi, hp, c4, c5, c6, s1', s2, s3, wr_id, ei2, ei, List.getElem?_set_self, List.set_set, set_peer, LR] <;> omega) | fail) only [push_cast, c1, hi, hp, c4, c5, c6, s1', s2, s3, wr_id, ei2, ei, List.getElem?_set_self, List.set_set, set_peer, simprocAttr, -Nat.reduceSubDiff]))
      · (simp -dsimp (disch := first | omega | (simp only [c1, hi, hp, c4, c5, c6, s1', s2, s3, wr_id, ei2, ei, List.getElem?_set_self, List.set_set, set_peer, LR] <;> omega) | fail) only [push_cast, c1, hi, hp, c4, c5, c6, s1', s2, s3, wr_id, ei2, ei, List.getElem?_set_self, List.set_set, set_peer, simprocAttr, -Nat.reduceSubDiff]) <;> (repeat (refine (aw_draw (by kernel_rfl)).2 ?_; simp -dsimp (disch := first | omega | (simp only [c1, hi, hp, c4, c5, c6, s1', s2, s3, wr_id, ei2, ei, List.getElem?_set_self, List.set_set, set_peer, LR] <;> omega) | fail) only [push_cast, c1, hi, hp, c4, c5, c6, s1', s2, s3, wr_id, ei2, ei, List.getElem?_set_self, List.set_set, set_peer, simprocAttr, -Nat.reduceSubDiff]))
    have hLk := fin (fun q => by cases rb with | true => rfl | false => exact (s4 ⟨q, rfl⟩).elim)
    clear fin hL
    have two : (p.ask = f.nm ∧ sumS m.tx f.st.w = f.nm ∧ rb = true) ∨ (¬ p.ask = f.nm ∧ sumS m.tx f.st.w = p.ask ∧ rb = rb) := by
      by_cases q : p.ask = f.nm
      · exact .inl ⟨q, q ▸ s1, by cases rb with | true => rfl | false => exact (s4 ⟨q, rfl⟩).elim⟩
      · exact .inr ⟨q, s1, rfl⟩
    clear s4
    rcases two with ⟨s2, s1', s5⟩ | ⟨s2, s1', s5⟩
    all_goals
      rcases hcode with e | e | e | e
      all_goals
        subst e
        simp at hLk
        subst hLk
      · have hM := hMf rfl
        simp only [reduceIte, Int.reduceEq] at hM
        subst hM
        (simp -dsimp (disch := first | omega | (simp only [c1, hi, hp, c4, c5, c6, s1', s2, s5, l3, wr_id, ei2, ei, List.getElem?_set_self, List.set_set, set_peer, LR] <;> omega) | fail) only [push_cast, c1, hi, hp, c4, c5, c6, s1', s2, s5, l3, wr_id, ei2, ei, List.getElem?_set_self, List.set_set, set_peer, simprocAttr, -Nat.reduceSubDiff]) <;> (repeat (refine (aw_draw (by kernel_rfl)).2 ?_; simp -dsimp (disch := first | omega | (simp only [c1, hi, hp, c4, c5, c6, s1', s2, s5, l3, wr_id, ei2, ei, List.getElem?_set_self, List.set_set, set_peer, LR] <;> omega) | fail) only [push_cast, c1, hi, hp, c4, c5, c6, s1', s2, s5, l3, wr_id, ei2, ei, List.getElem?_set_self, List.set_set, set_peer, simprocAttr, -Nat.reduceSubDiff]))
      · have hM := hMt rfl
        subst hM
        by_cases s3 : 3 < p.lies + 1
        · (simp -dsimp (disch := first | omega | (simp only [c1, hi, hp, c4, c5, c6, s1', s2, s5, s3, wr_id, ei2, ei, List.getElem?_set_self, List.set_set, set_peer, LR] <;> omega) | fail) only [push_cast, c1, hi, hp, c4, c5, c6, s1', s2, s5, s3, wr_id, ei2, ei, List.getElem?_set_self, List.set_set, set_peer, simprocAttr, -Nat.reduceSubDiff]) <;> (repeat (refine (aw_draw (by kernel_rfl)).2 ?_; simp -dsimp (disch := first | omega | (simp only [c1, hi, hp, c4, c5, c6, s1', s2, s5, s3, wr_id, ei2, ei, List.getElem?_set_self, List.set_set, set_peer, LR] <;> omega) | fail) only [push_cast, c1, hi, hp, c4, c5, c6, s1', s2, s5, s3, wr_id, ei2, ei, List.getElem?_set_self, List.set_set, set_peer, simprocAttr, -Nat.reduceSubDiff]))
        · (simp -dsimp (disch := first | omega | (simp only [c1, hi, hp, c4, c5, c6, s1', s2, s5, s3, wr_id, ei2, ei, List.getElem?_set_self, List.set_set, set_peer, LR] <;> omega) | fail) only [push_cast, c1, hi, hp, c4, c5, c6, s1', s2, s5, s3, wr_id, ei2, ei, List.getElem?_set_self, List.set_set, set_peer, simprocAttr, -Nat.reduceSubDiff]) <;> (repeat (refine (aw_draw (by kernel_rfl)).2 ?_; simp -dsimp (disch := first | omega | (simp only [c1, hi, hp, c4, c5, c6, s1', s2, s5, s3, wr_id, ei2, ei, List.getElem?_set_self, List.set_set, set_peer, LR] <;> omega) | fail) only [push_cast, c1, hi, hp, c4, c5, c6, s1', s2, s5, s3, wr_id, ei2, ei, List.getElem?_set_self, List.set_set, set_peer, simprocAttr, -Nat.reduceSubDiff]))
      · have hM := hMt rfl
        subst hM
        by_cases s3 : 3 < p.lies + 1
        · (simp -dsimp (disch := first | omega | (simp only [c1, hi, hp, c4, c5, c6, s1', s2, s5, s3, wr_id, ei2, ei, List.getElem?_set_self, List.set_set, set_peer, LR] <;> omega) | fail) only [push_cast, c1, hi, hp, c4, c5, c6, s1', s2, s5, s3, wr_id, ei2, ei, List.getElem?_set_self, List.set_set, set_peer, simprocAttr, -Nat.reduceSubDiff]) <;> (repeat (refine (aw_draw (by kernel_rfl)).2 ?_; simp -dsimp (disch := first | omega | (simp only [c1, hi, hp, c4, c5, c6, s1', s2, s5, s3, wr_id, ei2, ei, List.getElem?_set_self, List.set_set, set_peer, LR] <;> omega) | fail) only [push_cast, c1, hi, hp, c4, c5, c6, s1', s2, s5, s3, wr_id, ei2, ei, List.getElem?_set_self, List.set_set, set_peer, simprocAttr, -Nat.reduceSubDiff]))
        · (simp -dsimp (disch := first | omega | (simp only [c1, hi, hp, c4, c5, c6, s1', s2, s5, s3, wr_id, ei2, ei, List.getElem?_set_self, List.set_set, set_peer, LR] <;> omega) | fail) only [push_cast, c1, hi, hp, c4, c5, c6, s1', s2, s5, s3, wr_id, ei2, ei, List.getElem?_set_self, List.set_set, set_peer, simprocAttr, -Nat.reduceSubDiff]) <;> (repeat (refine (aw_draw (by kernel_rfl)).2 ?_; simp -dsimp (disch := first | omega | (simp only [c1, hi, hp, c4, c5, c6, s1', s2, s5, s3, wr_id, ei2, ei, List.getElem?_set_self, List.set_set, set_peer, LR] <;> omega) | fail) only [push_cast, c1, hi, hp, c4, c5, c6, s1', s2, s5, s3, wr_id, ei2, ei, List.getElem?_set_self, List.set_set, set_peer, simprocAttr, -Nat.reduceSubDiff]))
      · have hM := hMf rfl
        simp only [reduceIte, Int.reduceEq] at hM
        subst hM
        (simp -dsimp (disch := first | omega | (simp only [c1, hi, hp, c4, c5, c6, s1', s2, s5, l3, wr_id, ei2, ei, List.getElem?_set_self, List.set_set, set_peer, LR] <;> omega) | fail) only [push_cast, c1, hi, hp, c4, c5, c6, s1', s2, s5, l3, wr_id, ei2, ei, List.getElem?_set_self, List.set_set, set_peer, simprocAttr, -Nat.reduceSubDiff]) <;> (repeat (refine (aw_draw (by kernel_rfl)).2 ?_; simp -dsimp (disch := first | omega | (simp only [c1, hi, hp, c4, c5, c6, s1', s2, s5, l3, wr_id, ei2, ei, List.getElem?_set_self, List.set_set, set_peer, LR] <;> omega) | fail) only [push_cast, c1, hi, hp, c4, c5, c6, s1', s2, s5, l3, wr_id, ei2, ei, List.getElem?_set_self, List.set_set, set_peer, simprocAttr, -Nat.reduceSubDiff]))
end Go.Proofs.YtkkmgjhfjhcdmaaGreatDoor.Mx

/- A fetch takes a message: the program's FetchTake. -/
namespace Go.Proofs.YtkkmgjhfjhcdmaaGreatDoor.Mx
set_option linter.all false
open Go Go.RowKit Go.Proofs
set_option linter.unusedSimpArgs false
def E45 : Env := { T := T0, kp := look [(0, [0, 1]), (1, [2, 3, 4]), (2, [4]), (3, [2, 3, 4]), (4, [4, 5])], dp := look2 [(3, [[], [0], [], [0, 1, 2], [0, 1, 2, 3], [0, 1, 2, 3, 4], [0, 1, 2, 3, 4], [], [0, 1, 2, 3, 4, 5, 7], [0, 1, 2, 3, 4, 5, 6, 7, 8]])], md := look3 [(3, 3, [2, 0])] }
attribute [local push_cast] E45
set_option maxRecDepth 20000 in
set_option maxHeartbeats 2000000 in
theorem implFetchTake (f : Fetch) (m : Message) (hf : okFetch f) (hm : okMessage m) : Does Tryz.prog 45 [.ag (fetchC false f), .ag (messageC false m)] (.ag (fetchC true (ftakeF f m)), []) := by
  refine does_of (E := E45) (rs := [.cell 4 53]) (lent := []) tOk rfl Tryz.func45 rfl (by decide) rfl rfl (Nat.le_of_ble_eq_true rfl) (Nat.le_of_ble_eq_true rfl) ?_
  obtain ⟨M, hM⟩ : ∃ M, M = ftakeF f m := ⟨_, rfl⟩
  rw [← hM]
  unfold ftakeF at hM
  have hQl := hf.2.2.1
  have hIl := hf.2.1.1.1
  have hPl := hf.2.1.2.1
  (simp -dsimp (disch := first | omega | (simp only [LR] <;> omega) | fail) only [push_cast, simprocAttr, -Nat.reduceSubDiff]) <;> (repeat (refine (aw_draw (by kernel_rfl)).2 ?_; simp -dsimp (disch := first | omega | (simp only [LR] <;> omega) | fail) only [push_cast, simprocAttr, -Nat.reduceSubDiff]))
  refine callC (implValidFetch f hf) ?_
  cases hv : validF f with
  | false =>
    rw [if_neg (by rw [hv]; simp)] at hM
    subst hM
    (simp -dsimp (disch := first | omega | (simp only [LR] <;> omega) | fail) only [push_cast, simprocAttr, -Nat.reduceSubDiff]) <;> (repeat (refine (aw_draw (by kernel_rfl)).2 ?_; simp -dsimp (disch := first | omega | (simp only [LR] <;> omega) | fail) only [push_cast, simprocAttr, -Nat.reduceSubDiff]))
    rfl
  | true =>
  rw [if_pos hv] at hM
  (simp -dsimp (disch := first | omega | (simp only [LR] <;> omega) | fail) only [push_cast, simprocAttr, -Nat.reduceSubDiff]) <;> (repeat (refine (aw_draw (by kernel_rfl)).2 ?_; simp -dsimp (disch := first | omega | (simp only [LR] <;> omega) | fail) only [push_cast, simprocAttr, -Nat.reduceSubDiff]))
  refine callC (copyFetch f hf) ?_
  (simp -dsimp (disch := first | omega | (simp only [LR] <;> omega) | fail) only [push_cast, simprocAttr, -Nat.reduceSubDiff]) <;> (repeat (refine (aw_draw (by kernel_rfl)).2 ?_; simp -dsimp (disch := first | omega | (simp only [LR] <;> omega) | fail) only [push_cast, simprocAttr, -Nat.reduceSubDiff]))
  refine callC (implTake f m hf hm hv) ?_
  rw [← hM]
  (simp -dsimp (disch := first | omega | (simp only [LR] <;> omega) | fail) only [push_cast, simprocAttr, -Nat.reduceSubDiff]) <;> (repeat (refine (aw_draw (by kernel_rfl)).2 ?_; simp -dsimp (disch := first | omega | (simp only [LR] <;> omega) | fail) only [push_cast, simprocAttr, -Nat.reduceSubDiff]))
theorem emF_ok : okFetch emF := ⟨Nat.zero_le _, emS_ok, Nat.zero_le _, fun a h => by cases h⟩
theorem addS_ok {l : List Str} {s : Str} (hl : okL okStr l) (h : l.length ≤ 2097151) (hs : okStr s) : okL okStr (addS l s) :=
  ⟨by have := addS_len1 l s; omega, fun a ha => by
    unfold addS at ha
    cases hc : hasS l s with
    | true => rw [hc, cond_true] at ha; exact hl.2 a ha
    | false =>
      rw [hc, cond_false] at ha
      simp only [List.mem_append, List.mem_cons] at ha
      rcases ha with q | q | q
      · exact hl.2 a (List.mem_of_mem_take q)
      · rw [q]; exact hs
      · exact hl.2 a (List.mem_of_mem_drop q)⟩
theorem ftake_ok {f : Fetch} {m : Message} (hf : okFetch f) (hm : okMessage m) : okFetch (ftakeF f m) := by
  have hm2 : m.tx.size ≤ 2097152 := hm.2
  unfold ftakeF
  split
  · rename_i hv
    unfold takeF
    split
    · exact hf
    · split
      · exact hf
      · rename_i p hp
        have hpo := hf.2.2.2 p (List.mem_of_getElem? hp)
        have hN := (peer_up (peer_of hv hp)).2.2.2.1
        have setok : ∀ q : Peer, okPeer q → okL okPeer (f.Q.set (m.fr - 1).toNat q) := fun q hq => ⟨by rw [List.length_set]; exact hf.2.2.1, fun a ha => by
          rcases List.mem_or_eq_of_mem_set ha with h | h
          · exact hf.2.2.2 a h
          · rw [h]; exact hq⟩
        split
        · exact hf
        · split
          · refine ⟨hf.1, hf.2.1, setok _ ⟨Nat.zero_le _, ?_⟩⟩
            unfold notP
            simp only
            split
            · exact addS_ok hpo.2 (by omega) hm.1
            · exact hpo.2
          · refine ⟨hf.1, ?_, setok _ ⟨Nat.zero_le _, hpo.2⟩⟩
            simp only
            split
            · exact put_ok hf.2.1 hm2
            · exact hf.2.1
  · exact emF_ok
end Go.Proofs.YtkkmgjhfjhcdmaaGreatDoor.Mx

/- The law FnExactFetchTake runs. -/
namespace Go.Proofs.YtkkmgjhfjhcdmaaGreatDoor.Mx
set_option linter.all false
open Go Go.RowKit Go.Proofs
set_option linter.unusedSimpArgs false
def E6 : Env := { T := T0, kp := look [(0, [0, 1]), (1, [2, 3]), (2, [2, 3, 5]), (3, [2, 3, 5]), (4, []), (5, [2, 3, 5]), (6, [2, 3, 5]), (7, []), (8, [2, 3]), (9, [2, 3, 6]), (10, [2, 3, 6, 7]), (11, [2, 3, 6, 7, 8]), (12, []), (13, [2, 3, 6, 7, 8]), (14, []), (15, [2, 3, 6, 7, 8]), (16, [2, 3, 6, 7, 8, 9]), (17, [2, 3, 6, 8, 9]), (18, []), (19, [2, 3, 6, 8]), (20, [2, 3, 6, 8, 10]), (21, [2, 3, 6, 8, 10]), (22, [2, 3, 6, 8, 10, 11]), (23, [2, 3, 6, 8, 10, 11]), (24, []), (25, [2, 3, 6, 8, 10, 11]), (26, []), (27, [2, 3, 6, 8, 10]), (28, [6, 8, 10, 12]), (29, []), (30, [8, 10]), (31, [8, 10, 11]), (32, [10, 11]), (33, []), (34, [10, 11]), (35, []), (36, [])], dp := look2 [(8, [[], [0], [], [0, 1, 2], [0, 1, 2, 3], [], [0, 1, 2, 3, 4, 5]]), (10, [[], [], [1], [0, 1, 2], [], [0, 1, 2, 3, 4]]), (13, [[], [], [1], [0, 1, 2], [0, 1, 2, 3]]), (27, [[], [0], [], [0, 1, 2], [0, 1, 2, 3], [], [0, 1, 2, 3, 4, 5]])], md := look3 [(16, 2, [1]), (20, 2, [1])] }
attribute [local push_cast] E6
set_option maxRecDepth 20000 in
set_option maxHeartbeats 4000000 in
theorem fnExactFetchTake (f : Fetch) (m : Message) (hb : bdFetch f) (hbm : bdMessage m) : Does Tryz.prog 6 [.ag (fetchC false f), .ag (messageC false m)] (.sc (.bool true), []) := by
  refine does_of (E := E6) (rs := [.tmp 4]) (lent := []) tOk rfl Tryz.func6 rfl (by decide) rfl rfl (Nat.le_of_ble_eq_true rfl) (Nat.le_of_ble_eq_true rfl) ?_
  (simp -dsimp (disch := first | omega | (simp only [LR] <;> omega) | fail) only [push_cast, simprocAttr, -Nat.reduceSubDiff]) <;> (repeat (refine (aw_draw (by kernel_rfl)).2 ?_; simp -dsimp (disch := first | omega | (simp only [LR] <;> omega) | fail) only [push_cast, simprocAttr, -Nat.reduceSubDiff]))
  refine callC (szFetch_run f _ (by omega) (by omega) hb) ?_
  by_cases h1 : szFetch f 1048576 < 0
  · (simp -dsimp (disch := first | omega | (simp only [h1, LR] <;> omega) | fail) only [push_cast, h1, simprocAttr, -Nat.reduceSubDiff]) <;> (repeat (refine (aw_draw (by kernel_rfl)).2 ?_; simp -dsimp (disch := first | omega | (simp only [h1, LR] <;> omega) | fail) only [push_cast, h1, simprocAttr, -Nat.reduceSubDiff]))
  have hq1 := szFetch_ok f 1048576 (by omega)
  have hf : okFetch f := hq1.2 (by omega)
  (simp -dsimp (disch := first | omega | (simp only [LR] <;> omega) | fail) only [push_cast, simprocAttr, -Nat.reduceSubDiff]) <;> (repeat (refine (aw_draw (by kernel_rfl)).2 ?_; simp -dsimp (disch := first | omega | (simp only [LR] <;> omega) | fail) only [push_cast, simprocAttr, -Nat.reduceSubDiff]))
  refine callC (szMessage_run m _ (by omega) (by omega) hbm) ?_
  by_cases h2 : szMessage m (szFetch f 1048576) < 0
  · (simp -dsimp (disch := first | omega | (simp only [h2, LR] <;> omega) | fail) only [push_cast, h2, simprocAttr, -Nat.reduceSubDiff]) <;> (repeat (refine (aw_draw (by kernel_rfl)).2 ?_; simp -dsimp (disch := first | omega | (simp only [h2, LR] <;> omega) | fail) only [push_cast, h2, simprocAttr, -Nat.reduceSubDiff]))
  have hmm : okMessage m := (szMessage_ok m (szFetch f 1048576) (by omega)).2 (by omega)
  have hgo := ftake_ok (m := m) hf hmm
  have hsp := specFetchTake f m hf hmm
  have him := implFetchTake f m hf hmm
  generalize ftakeF f m = g at *
  have hm := scnFetch_le g hgo
  have hm0 := scnFetch_nn g
  have hq := scnFetch_le f hf
  have hq0 := scnFetch_nn f
  (simp -dsimp (disch := first | omega | (simp only [LR] <;> omega) | fail) only [push_cast, simprocAttr, -Nat.reduceSubDiff]) <;> (repeat (refine (aw_draw (by kernel_rfl)).2 ?_; simp -dsimp (disch := first | omega | (simp only [LR] <;> omega) | fail) only [push_cast, simprocAttr, -Nat.reduceSubDiff]))
  refine callC (toFetch_run f hf) ?_
  (simp -dsimp (disch := first | omega | (simp only [LR] <;> omega) | fail) only [push_cast, simprocAttr, -Nat.reduceSubDiff]) <;> (repeat (refine (aw_draw (by kernel_rfl)).2 ?_; simp -dsimp (disch := first | omega | (simp only [LR] <;> omega) | fail) only [push_cast, simprocAttr, -Nat.reduceSubDiff]))
  refine callC (toMessage_run m hmm) ?_
  (simp -dsimp (disch := first | omega | (simp only [LR] <;> omega) | fail) only [push_cast, simprocAttr, -Nat.reduceSubDiff]) <;> (repeat (refine (aw_draw (by kernel_rfl)).2 ?_; simp -dsimp (disch := first | omega | (simp only [LR] <;> omega) | fail) only [push_cast, simprocAttr, -Nat.reduceSubDiff]))
  refine callC hsp ?_
  (simp -dsimp (disch := first | omega | (simp only [LR] <;> omega) | fail) only [push_cast, simprocAttr, -Nat.reduceSubDiff]) <;> (repeat (refine (aw_draw (by kernel_rfl)).2 ?_; simp -dsimp (disch := first | omega | (simp only [LR] <;> omega) | fail) only [push_cast, simprocAttr, -Nat.reduceSubDiff]))
  refine callC (toFetch_run f hf) ?_
  (simp -dsimp (disch := first | omega | (simp only [LR] <;> omega) | fail) only [push_cast, simprocAttr, -Nat.reduceSubDiff]) <;> (repeat (refine (aw_draw (by kernel_rfl)).2 ?_; simp -dsimp (disch := first | omega | (simp only [LR] <;> omega) | fail) only [push_cast, simprocAttr, -Nat.reduceSubDiff]))
  refine callC (toMessage_run m hmm) ?_
  (simp -dsimp (disch := first | omega | (simp only [LR] <;> omega) | fail) only [push_cast, simprocAttr, -Nat.reduceSubDiff]) <;> (repeat (refine (aw_draw (by kernel_rfl)).2 ?_; simp -dsimp (disch := first | omega | (simp only [LR] <;> omega) | fail) only [push_cast, simprocAttr, -Nat.reduceSubDiff]))
  refine callC him ?_
  (simp -dsimp (disch := first | omega | (simp only [LR] <;> omega) | fail) only [push_cast, simprocAttr, -Nat.reduceSubDiff]) <;> (repeat (refine (aw_draw (by kernel_rfl)).2 ?_; simp -dsimp (disch := first | omega | (simp only [LR] <;> omega) | fail) only [push_cast, simprocAttr, -Nat.reduceSubDiff]))
  refine callC (eqFetch g g hgo) ?_
  (simp -dsimp (disch := first | omega | (simp only [LR] <;> omega) | fail) only [push_cast, simprocAttr, -Nat.reduceSubDiff]) <;> (repeat (refine (aw_draw (by kernel_rfl)).2 ?_; simp -dsimp (disch := first | omega | (simp only [LR] <;> omega) | fail) only [push_cast, simprocAttr, -Nat.reduceSubDiff]))
  refine callC (toFetch_run f hf) ?_
  (simp -dsimp (disch := first | omega | (simp only [LR] <;> omega) | fail) only [push_cast, simprocAttr, -Nat.reduceSubDiff]) <;> (repeat (refine (aw_draw (by kernel_rfl)).2 ?_; simp -dsimp (disch := first | omega | (simp only [LR] <;> omega) | fail) only [push_cast, simprocAttr, -Nat.reduceSubDiff]))
  refine callC (eqFetch f f hf) ?_
  (simp -dsimp (disch := first | omega | (simp only [LR] <;> omega) | fail) only [push_cast, simprocAttr, -Nat.reduceSubDiff]) <;> (repeat (refine (aw_draw (by kernel_rfl)).2 ?_; simp -dsimp (disch := first | omega | (simp only [LR] <;> omega) | fail) only [push_cast, simprocAttr, -Nat.reduceSubDiff]))
  refine callC (markFetch_run f 1 (by omega) (by omega)) ?_
  (simp -dsimp (disch := first | omega | (simp only [smkFetch, smkStore, LR] <;> omega) | fail) only [push_cast, smkFetch, smkStore, simprocAttr, -Nat.reduceSubDiff]) <;> (repeat (refine (aw_draw (by kernel_rfl)).2 ?_; simp -dsimp (disch := first | omega | (simp only [smkFetch, smkStore, LR] <;> omega) | fail) only [push_cast, smkFetch, smkStore, simprocAttr, -Nat.reduceSubDiff]))
  refine callC (eqFetch g g hgo) ?_
  (simp -dsimp (disch := first | omega | (simp only [LR] <;> omega) | fail) only [push_cast, simprocAttr, -Nat.reduceSubDiff]) <;> (repeat (refine (aw_draw (by kernel_rfl)).2 ?_; simp -dsimp (disch := first | omega | (simp only [LR] <;> omega) | fail) only [push_cast, simprocAttr, -Nat.reduceSubDiff]))
  refine callC (markFetch_run g 1 (by omega) (by omega)) ?_
  (simp -dsimp (disch := first | omega | (simp only [smkFetch, smkStore, LR] <;> omega) | fail) only [push_cast, smkFetch, smkStore, simprocAttr, -Nat.reduceSubDiff]) <;> (repeat (refine (aw_draw (by kernel_rfl)).2 ?_; simp -dsimp (disch := first | omega | (simp only [smkFetch, smkStore, LR] <;> omega) | fail) only [push_cast, smkFetch, smkStore, simprocAttr, -Nat.reduceSubDiff]))
  refine callC (heldFetch_run (smkFetch g 1) 1 (by omega) (by rw [scnmk_Fetch]; omega)) ?_
  rw [hsFetch_mk g 1 (by omega)]
  (simp -dsimp (disch := first | omega | (simp only [LR] <;> omega) | fail) only [push_cast, simprocAttr, -Nat.reduceSubDiff]) <;> (repeat (refine (aw_draw (by kernel_rfl)).2 ?_; simp -dsimp (disch := first | omega | (simp only [LR] <;> omega) | fail) only [push_cast, simprocAttr, -Nat.reduceSubDiff]))
  refine callC (toFetch_run f hf) ?_
  (simp -dsimp (disch := first | omega | (simp only [LR] <;> omega) | fail) only [push_cast, simprocAttr, -Nat.reduceSubDiff]) <;> (repeat (refine (aw_draw (by kernel_rfl)).2 ?_; simp -dsimp (disch := first | omega | (simp only [LR] <;> omega) | fail) only [push_cast, simprocAttr, -Nat.reduceSubDiff]))
  refine callC (toMessage_run m hmm) ?_
  (simp -dsimp (disch := first | omega | (simp only [LR] <;> omega) | fail) only [push_cast, simprocAttr, -Nat.reduceSubDiff]) <;> (repeat (refine (aw_draw (by kernel_rfl)).2 ?_; simp -dsimp (disch := first | omega | (simp only [LR] <;> omega) | fail) only [push_cast, simprocAttr, -Nat.reduceSubDiff]))
  refine callC him ?_
  (simp -dsimp (disch := first | omega | (simp only [LR] <;> omega) | fail) only [push_cast, simprocAttr, -Nat.reduceSubDiff]) <;> (repeat (refine (aw_draw (by kernel_rfl)).2 ?_; simp -dsimp (disch := first | omega | (simp only [LR] <;> omega) | fail) only [push_cast, simprocAttr, -Nat.reduceSubDiff]))
  refine callC (eqFetch g g hgo) ?_
  (simp -dsimp (disch := first | omega | (simp only [LR] <;> omega) | fail) only [push_cast, simprocAttr, -Nat.reduceSubDiff]) <;> (repeat (refine (aw_draw (by kernel_rfl)).2 ?_; simp -dsimp (disch := first | omega | (simp only [LR] <;> omega) | fail) only [push_cast, simprocAttr, -Nat.reduceSubDiff]))
  refine callC (heldFetch_run (smkFetch g 1) 1 (by omega) (by rw [scnmk_Fetch]; omega)) ?_
  rw [hsFetch_mk g 1 (by omega)]
  (simp -dsimp (disch := first | omega | (simp only [LR] <;> omega) | fail) only [push_cast, simprocAttr, -Nat.reduceSubDiff]) <;> (repeat (refine (aw_draw (by kernel_rfl)).2 ?_; simp -dsimp (disch := first | omega | (simp only [LR] <;> omega) | fail) only [push_cast, simprocAttr, -Nat.reduceSubDiff]))
end Go.Proofs.YtkkmgjhfjhcdmaaGreatDoor.Mx

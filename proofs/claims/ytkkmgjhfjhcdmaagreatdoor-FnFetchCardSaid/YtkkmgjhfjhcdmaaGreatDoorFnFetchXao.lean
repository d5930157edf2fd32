/- A machine over values for Go functions, proved sound, and functions run on it: texts V14, V3c, V21, F44, V15, V16, V17, V22, F14, F16. -/
import Derived.Sort.Defs
import Derived.Test.YtkkmgjhfjhcdmaaGreatDoorFnFetchXai
import Derived.Test.YtkkmgjhfjhcdmaaGreatDoorFnFetchXak
import Derived.Test.YtkkmgjhfjhcdmaaGreatDoorFnFetchXal
import Derived.Test.YtkkmgjhfjhcdmaaGreatDoorFnFetchXam
import Derived.Test.YtkkmgjhfjhcdmaaGreatDoorFnFetchXan
set_option linter.all false
namespace Go.Proofs.YtkkmgjhfjhcdmaaGreatDoor.Mx
open Go Go.RowKit
def decP (p : Peer) : Peer := if 0 < p.wait then ⟨p.lies, p.wait - 1, p.last, if p.wait - 1 = 0 then ⟨#[]⟩ else p.ask, p.N⟩ else p
def freeP (p : Peer) : Bool := decide (p.wait = 0) && decide (p.lies < 3)
def lastAt (Q : List Peer) (b : Int) : Int := match Q[b.toNat]? with | some p => p.last | none => 0
def nextF (Q : List Peer) (S : List Bool) : Nat → Int
  | 0 => -1
  | i + 1 => match Q[i]?, S[i]? with
    | some p, some b => if b = false ∧ freeP p = true ∧ (nextF Q S i < 0 ∨ p.last < lastAt Q (nextF Q S i)) then i else nextF Q S i
    | _, _ => nextF Q S i
theorem next_rng (Q : List Peer) (S : List Bool) : ∀ i : Nat, -1 ≤ nextF Q S i ∧ nextF Q S i < i ∧ nextF Q S i < Q.length
  | 0 => by rw [nextF]; omega
  | i + 1 => by
    have := next_rng Q S i
    rw [nextF]
    split
    · rename_i p b hp hb
      have := (List.getElem?_eq_some_iff.1 hp).1
      split <;> omega
    · omega
theorem next_free (Q : List Peer) (S : List Bool) : ∀ (i k : Nat), nextF Q S i = k → ∃ p, Q[k]? = some p ∧ S[k]? = some false ∧ freeP p = true
  | 0, k, h => by rw [nextF] at h; omega
  | i + 1, k, h => by
    rw [nextF] at h
    split at h
    · rename_i p b hp hb
      split at h
      · rename_i hc
        have : i = k := by omega
        subst this
        exact ⟨p, hp, by rw [hb, hc.1], hc.2.1⟩
      · exact next_free Q S i k h
    · exact next_free Q S i k h
def askedB (Q : List Peer) (x : Str) : Bool := Q.any fun p => decide (0 < p.wait) && decide (p.ask = x)
def pickL (Q : List Peer) (p : Peer) : List Str → Str
  | [] => ⟨#[]⟩
  | x :: r => if inL p.N x = false ∧ askedB Q x = false then x else pickL Q p r
def ask1 (now : Int) (lacks : List Str) (q : List Peer × List Message) (i : Nat) : List Peer × List Message :=
  match q.1[i]? with
  | none => q
  | some p => if pickL q.1 p lacks = (⟨#[]⟩ : Str) then q else (q.1.set i ⟨p.lies, 5, now, pickL q.1 p lacks, p.N⟩, q.2 ++ [⟨0, i + 1, pickL q.1 p lacks, false, ⟨#[]⟩⟩])
def cntF (S : List Bool) : Nat := S.countP fun b => !b
theorem cnt_set : ∀ {S : List Bool} {k : Nat}, S[k]? = some false → cntF (S.set k true) + 1 = cntF S
  | [], k, h => by simp at h
  | b :: r, 0, h => by
    simp only [List.getElem?_cons_zero, Option.some.injEq] at h
    subst h
    simp [cntF]
  | b :: r, k + 1, h => by
    have := cnt_set (S := r) (k := k) (by simpa using h)
    unfold cntF at this ⊢
    rw [List.set_cons_succ, List.countP_cons, List.countP_cons]
    omega
theorem ask1_len (now : Int) (lacks : List Str) (q : List Peer × List Message) (i : Nat) : (ask1 now lacks q i).1.length = q.1.length := by
  unfold ask1
  split
  · rfl
  · split
    · rfl
    · simp
def runT (now : Int) (lacks : List Str) (S : List Bool) (q : List Peer × List Message) : List Peer × List Message :=
  if h : 0 ≤ nextF q.1 S q.1.length then runT now lacks (S.set (nextF q.1 S q.1.length).toNat true) (ask1 now lacks q (nextF q.1 S q.1.length).toNat) else q
  termination_by cntF S
  decreasing_by
    obtain ⟨p, _, h2, _⟩ := next_free q.1 S q.1.length (nextF q.1 S q.1.length).toNat (by omega)
    have := cnt_set h2
    omega
noncomputable def tickF (f : Fetch) : Fetch × List Message :=
  if 1000000 ≤ f.now then (f, [])
  else if f.full = true then ({ f with now := f.now + 1, Q := f.Q.map decP }, [])
  else ({ f with now := f.now + 1, Q := (runT (f.now + 1) (lacksF f.st f.nm) (List.replicate f.Q.length false) (f.Q.map decP, [])).1 }, (runT (f.now + 1) (lacksF f.st f.nm) (List.replicate f.Q.length false) (f.Q.map decP, [])).2)
noncomputable def ftickF (f : Fetch) : Fetch × List Message := if validF f = true then tickF f else (emF, [])
end Go.Proofs.YtkkmgjhfjhcdmaaGreatDoor.Mx

namespace Go.Proofs.YtkkmgjhfjhcdmaaGreatDoor.Mx
open Go Go.RowKit
structure Evt where
  k : Int
  a : Int
  b : Int
  m : Message
  deriving DecidableEq
@[push_cast] def evtC (o : Bool) (x : Evt) : Row := [.sc (.int .i64 x.k), .sc (.int .i64 x.a), .sc (.int .i64 x.b), .sc (.int .i64 x.m.fr), .sc (.int .i64 x.m.to), .sc (.string x.m.sum), .sc (.bool x.m.has), .sc (.string x.m.tx)]
def okEvt (x : Evt) : Prop := okMessage x.m
@[push_cast] theorem own_Evt (l : List Evt) : (l.map (evtC true)).all (fun row => row.all own2) = true := by simp [evtC, own2]
@[push_cast] theorem rd_Evt (o : Bool) (l : List Evt) : rdR (l.map (evtC o)) = l.map (evtC false) := by simp [rdR, evtC, rdC]
end Go.Proofs.YtkkmgjhfjhcdmaaGreatDoor.Mx

namespace Go.Proofs.YtkkmgjhfjhcdmaaGreatDoor.Mx
open Go Go.RowKit
def sendW (w : World) (m : Message) : World := if w.fl.length < 300 then { w with fl := w.fl ++ [m] } else w
def sendsW (w : World) (L : List Message) : World := L.foldl sendW w
def liesQ : List Peer → Int
  | [] => 0
  | p :: r => p.lies + liesQ r
noncomputable def tickW (w : World) : World := sendsW { w with f := (ftickF w.f).1 } (ftickF w.f).2
noncomputable def ansM (s : Store) (m : Message) : Message := if 0 ≤ atI s.w m.sum s.I then ⟨m.to, 0, m.sum, true, textAt s m.sum⟩ else ⟨m.to, 0, m.sum, false, em⟩
noncomputable def recvW (w : World) (m : Message) : World :=
  if m.to = 0 then { w with f := ftakeF w.f m, wa := wr .i64 (w.wa + (liesQ (ftakeF w.f m).Q - liesQ w.f.Q)) }
  else match w.up[(m.to - 1).toNat]?, w.ss[(m.to - 1).toNat]? with
    | some true, some s => if m.fr = 0 then sendW w (ansM s m) else w
    | _, _ => w
noncomputable def bringW (w : World) (k : Nat) : World := match w.fl[k]? with
  | none => w
  | some m => recvW { w with fl := rmAt w.fl k } m
def sayB (n : Nat) (m : Message) : Bool := inB m.fr 1 n && decide (m.to = 0) && decide (m.sum.size ≤ 8) && decide (m.tx.size ≤ 7000)
def dropW (w : World) (k : Nat) (b : Int) : World := match w.ss[k]? with
  | none => w
  | some s => if 0 ≤ b ∧ b < s.I.length then { w with ss := w.ss.set k { s with I := rmAt s.I b.toNat } } else w
noncomputable def doW (w : World) (e : Evt) : World :=
  if e.k = 1 then tickW w
  else if e.k = 2 then (if 0 ≤ e.a then bringW w e.a.toNat else w)
  else if e.k = 3 then (if 0 ≤ e.a then (match w.fl[e.a.toNat]? with | none => w | some m => sendW w m) else w)
  else if e.k = 4 then (if 0 ≤ e.a ∧ e.a < w.fl.length then { w with fl := rmAt w.fl e.a.toNat } else w)
  else if e.k = 5 then (if sayB w.up.length e.m = true then sendW w e.m else w)
  else if e.k = 6 then (if 1 ≤ e.a ∧ e.a ≤ w.up.length then { w with up := w.up.set (e.a - 1).toNat false } else w)
  else if e.k = 7 then (if 1 ≤ e.a ∧ e.a ≤ w.up.length then { w with up := w.up.set (e.a - 1).toNat true } else w)
  else if e.k = 8 then (if 1 ≤ e.a then dropW w (e.a - 1).toNat e.b else w)
  else w
theorem validF_up {f : Fetch} (h : validF f = true) : validSt f.st = true ∧ f.nm ∈ f.st.P ∧ (0 ≤ f.now ∧ f.now ≤ 1000000) ∧ (1 ≤ f.Q.length ∧ f.Q.length ≤ 5) ∧ ∀ p ∈ f.Q, peerB f.st.w f.now p = true := by
  unfold validF at h
  simp only [Bool.and_eq_true] at h
  obtain ⟨⟨⟨⟨a, b⟩, c⟩, d⟩, e⟩ := h
  have c := of_decide_eq_true c
  have d := of_decide_eq_true d
  exact ⟨a, (inL_iff ..).1 b, c, by omega, fun p hp => List.all_eq_true.1 e p hp⟩
theorem validF_of {f : Fetch} (a : validSt f.st = true) (b : f.nm ∈ f.st.P) (c : 0 ≤ f.now ∧ f.now ≤ 1000000) (d : 1 ≤ f.Q.length ∧ f.Q.length ≤ 5) (e : ∀ p ∈ f.Q, peerB f.st.w f.now p = true) : validF f = true := by
  unfold validF
  simp only [Bool.and_eq_true]
  exact ⟨⟨⟨⟨a, (inL_iff ..).2 b⟩, decide_eq_true c⟩, decide_eq_true (by omega)⟩, List.all_eq_true.2 e⟩
theorem peerB_up {w now : Int} {p : Peer} (h : peerB w now p = true) : (0 ≤ p.lies ∧ p.lies ≤ 3) ∧ (0 ≤ p.wait ∧ p.wait ≤ 5) ∧ (-1 ≤ p.last ∧ p.last ≤ now) ∧ p.N.length ≤ 376 ∧ askB w p.wait p.ask = true ∧ ascF w none p.N = true := by
  unfold peerB at h
  simp only [Bool.and_eq_true] at h
  obtain ⟨⟨⟨⟨⟨a, b⟩, c⟩, d⟩, e⟩, g⟩ := h
  exact ⟨of_decide_eq_true a, of_decide_eq_true b, of_decide_eq_true c, of_decide_eq_true d, e, g⟩
theorem peerB_of {w now : Int} {p : Peer} (a : 0 ≤ p.lies ∧ p.lies ≤ 3) (b : 0 ≤ p.wait ∧ p.wait ≤ 5) (c : -1 ≤ p.last ∧ p.last ≤ now) (d : p.N.length ≤ 376) (e : askB w p.wait p.ask = true) (g : ascF w none p.N = true) : peerB w now p = true := by
  unfold peerB
  simp only [Bool.and_eq_true]
  exact ⟨⟨⟨⟨⟨decide_eq_true a, decide_eq_true b⟩, decide_eq_true c⟩, decide_eq_true d⟩, e⟩, g⟩
theorem askB_zero (w : Int) : askB w 0 em = true := by
  unfold askB
  simp
theorem askB_wait {w n : Int} {u : Str} (hn : 0 < n) (hu : (u.size : Int) = w) : askB w n u = true := by
  unfold askB
  rw [decide_eq_true hn, cond_true, decide_eq_true hu]
theorem askB_up {w n : Int} {u : Str} (h : askB w n u = true) : (0 < n → (u.size : Int) = w) ∧ (n = 0 → u = em) := by
  unfold askB at h
  constructor
  · intro hn
    rw [decide_eq_true hn, cond_true] at h
    exact of_decide_eq_true h
  · intro hn
    subst hn
    simpa using h
theorem addS_asc {w : Int} {l : List Str} {u : Str} (h : ascF w none l = true) (hu : (u.size : Int) = w) : ascF w none (addS l u) = true := by
  obtain ⟨a, b, _⟩ := (asc_iff w l none).1 h
  refine (asc_iff w _ none).2 ⟨fun x hx => ?_, ?_, fun x _ => aft_none x⟩
  · unfold addS at hx
    cases hc : hasS l u with
    | true => rw [hc, cond_true] at hx; exact a x hx
    | false =>
      rw [hc, cond_false] at hx
      simp only [List.mem_append, List.mem_cons] at hx
      rcases hx with q | q | q
      · exact a x (List.mem_of_mem_take q)
      · rw [q]; exact hu
      · exact a x (List.mem_of_mem_drop q)
  · unfold addS
    cases hc : hasS l u with
    | true => rw [cond_true]; exact b
    | false =>
      rw [cond_false]
      refine pw_ins b fun q => ?_
      have h1 := hasS_inL h u
      rw [hc, (inL_iff _ _).2 q] at h1; cases h1
theorem take_valid {f : Fetch} (m : Message) (h : validF f = true) : validF (takeF f m) = true ∧ (takeF f m).st.w = f.st.w ∧ (takeF f m).st.P = f.st.P ∧ (takeF f m).Q.length = f.Q.length ∧ (takeF f m).now = f.now ∧ (takeF f m).nm = f.nm ∧ (takeF f m).st.r = f.st.r := by
  obtain ⟨a, b, c, d, e⟩ := validF_up h
  unfold takeF
  split
  · exact ⟨h, rfl, rfl, rfl, rfl, rfl, rfl⟩
  · split
    · exact ⟨h, rfl, rfl, rfl, rfl, rfl, rfl⟩
    · rename_i p hp
      obtain ⟨p1, p2, p3, p4, p5, p6⟩ := peerB_up (e p (List.mem_of_getElem? hp))
      split
      · exact ⟨h, rfl, rfl, rfl, rfl, rfl, rfl⟩
      · rename_i hw
        have hask : (m.sum.size : Int) = f.st.w := by
          have h1 : m.sum = p.ask := Classical.byContradiction fun q => hw (.inr q)
          have h2 : ¬ p.wait = 0 := fun q => hw (.inl q)
          rw [h1]
          exact (askB_up p5).1 (by omega)
        split
        · refine ⟨validF_of a b c (by show 1 ≤ (f.Q.set _ _).length ∧ (f.Q.set _ _).length ≤ 5; rw [List.length_set]; exact d) fun q hq => ?_, rfl, rfl, List.length_set, rfl, rfl, rfl⟩
          rcases List.mem_or_eq_of_mem_set hq with hq | hq
          · exact e q hq
          · rw [hq]
            refine peerB_of p1 ⟨Int.le_refl 0, show (0 : Int) ≤ 5 by decide⟩ p3 ?_ (askB_zero _) ?_
            · show (if (addS p.N m.sum).length ≤ 376 then addS p.N m.sum else p.N).length ≤ 376
              split
              · assumption
              · exact p4
            · show ascF _ _ (if (addS p.N m.sum).length ≤ 376 then addS p.N m.sum else p.N) = true
              split
              · exact addS_asc p6 hask
              · exact p6
        · have key : ∀ s', validSt s' = true ∧ s'.w = f.st.w ∧ s'.P = f.st.P ∧ s'.r = f.st.r → validF { f with
              full := if lieB f m = false ∧ (putF f.st m.tx f.now).2 = 3 then true else f.full
              st := s'
              Q := f.Q.set (m.fr - 1).toNat (lieP p (lieB f m)) } = true := fun s' hs => by
            obtain ⟨h1, h2, h3, _⟩ := hs
            refine validF_of h1 (by show f.nm ∈ s'.P; rw [h3]; exact b) c (by show 1 ≤ (f.Q.set _ _).length ∧ (f.Q.set _ _).length ≤ 5; rw [List.length_set]; exact d) fun q hq => ?_
            show peerB s'.w f.now q = true
            rw [h2]
            rcases List.mem_or_eq_of_mem_set hq with hq | hq
            · exact e q hq
            · rw [hq]
              refine peerB_of ?_ ⟨Int.le_refl 0, show (0 : Int) ≤ 5 by decide⟩ p3 p4 (askB_zero _) p6
              show 0 ≤ (if lieB f m = true then (if 3 < p.lies + 1 then (3 : Int) else p.lies + 1) else p.lies) ∧ (if lieB f m = true then (if 3 < p.lies + 1 then (3 : Int) else p.lies + 1) else p.lies) ≤ 3
              split
              · split <;> omega
              · exact p1
          have hs : ∀ q : Prop, [Decidable q] → (q → (putF f.st m.tx f.now).2 = 0) → validSt (if q then (putF f.st m.tx f.now).1 else f.st) = true ∧ (if q then (putF f.st m.tx f.now).1 else f.st).w = f.st.w ∧ (if q then (putF f.st m.tx f.now).1 else f.st).P = f.st.P ∧ (if q then (putF f.st m.tx f.now).1 else f.st).r = f.st.r := fun q _ hq => by
            split
            · rename_i h1
              have h2 := hq h1
              obtain ⟨x, y, z⟩ := put_wP h2
              exact ⟨put_valid h2, x, z, y⟩
            · exact ⟨a, rfl, rfl, rfl⟩
          have hs := hs (lieB f m = false ∧ (putF f.st m.tx f.now).2 = 0) fun q => q.2
          exact ⟨key _ hs, hs.2.1, hs.2.2.1, List.length_set, rfl, rfl, hs.2.2.2⟩
end Go.Proofs.YtkkmgjhfjhcdmaaGreatDoor.Mx

namespace Go.Proofs.YtkkmgjhfjhcdmaaGreatDoor.Mx
open Go Go.RowKit Go.Proofs
theorem rF44_0 {p q : Prop} (k : q) (h : p = q := by conv => lhs; simp -dsimp (disch := first | omega | (simp only [zF, pMapSet, kkey, LR] <;> omega) | fail) only [push_cast, zF, pMapSet, kkey, simprocAttr, -Nat.reduceSubDiff]) : p := h.mpr k
theorem rF44_1 {p q : Prop} (k : q) (h : p = q := by conv => lhs; simp -dsimp (disch := first | omega | (simp only [zF, pLookup, entries, kkey, mset_get, LR] <;> omega) | fail) only [push_cast, zF, pLookup, entries, kkey, mset_get, simprocAttr, -Nat.reduceSubDiff]) : p := h.mpr k
theorem rF44_2 {p q : Prop} (k : q) (h : p = q := by conv => lhs; simp -dsimp (disch := first | omega | (simp only [zF, pLookup, entries, kkey, mset_get, pMapSet, LR] <;> omega) | fail) only [push_cast, zF, pLookup, entries, kkey, mset_get, pMapSet, simprocAttr, -Nat.reduceSubDiff]) : p := h.mpr k
theorem rF44_3 {p q : Prop} (k : q) (h : p = q := by conv => lhs; simp -dsimp (disch := first | omega | (simp only [zF, wr_id, List.map_append, List.length_append, List.length_cons, List.length_nil, LR] <;> omega) | fail) only [push_cast, zF, wr_id, List.map_append, List.length_append, List.length_cons, List.length_nil, simprocAttr, -Nat.reduceSubDiff]) : p := h.mpr k
theorem rF44_4 {p q : Prop} (k : q) (h : p = q := by conv => lhs; simp -dsimp (disch := first | omega | (simp only [zF, mset, List.take_zero, List.foldl_nil, List.map_nil, LR] <;> omega) | fail) only [push_cast, zF, mset, List.take_zero, List.foldl_nil, List.map_nil, simprocAttr, -Nat.reduceSubDiff]) : p := h.mpr k
theorem rF44_5 {p q : Prop} (k : q) (h : p = q := by conv => lhs; simp -dsimp (disch := first | omega | (simp only [zF, List.append_nil, LR] <;> omega) | fail) only [push_cast, zF, List.append_nil, simprocAttr, -Nat.reduceSubDiff]) : p := h.mpr k
def E85 : Env := { T := T0, kp := look [(0, [0, 1]), (1, [1, 2]), (2, [1, 2, 5]), (3, [5]), (4, [1, 2, 5]), (5, [1, 2, 5, 6, 7]), (6, [1, 5]), (7, [2, 5, 6]), (8, [2, 5, 6, 8]), (9, [2, 5, 6, 8]), (10, [2, 5, 6, 8]), (11, [2, 5, 6, 8]), (12, [5])], dp := look2 [(10, [[], [], [1], [], [1, 2, 3], [1, 2, 3, 4], [0, 1, 2, 3, 4, 5], [0, 1, 2, 3, 4, 5, 6], [0, 1, 2, 3, 4, 5, 6, 7], [0, 1, 2, 3, 4, 5, 6, 7, 8], [0, 1, 2, 3, 4, 5, 6, 7, 8], [0, 1, 2, 3, 4, 5, 6, 7, 8, 10], [0, 1, 2, 3, 4, 5, 6, 7, 8], [0, 1, 2, 3, 4, 5, 6, 7, 8, 10, 11, 12], [0, 1, 2, 3, 4, 5, 6, 7, 8, 10, 11, 12, 13], [0, 1, 2, 3, 4, 5, 6, 7, 8, 9, 10, 11, 12, 13, 14], [0, 1, 2, 3, 4, 5, 6, 7, 8, 9, 10, 11, 12, 13, 14, 15], [0, 1, 2, 3, 4, 5, 6, 7, 8, 9, 10, 11, 12, 13, 14, 15, 16]])] }
attribute [local push_cast] E85
set_option maxRecDepth 20000 in
set_option maxHeartbeats 1000000 in
theorem specLacks (s : Store) (n : Str) (hs : okStore s) : Does Tryz.prog 85 [.ag (storeC false s), .sc (.string n)] (.sl true 1 ((lacksF s n).map strR), []) := by
  refine does_of (E := E85) (rs := [.tmp 4]) (lent := []) tOk rfl Tryz.func85 rfl (by decide) rfl rfl (Nat.le_of_ble_eq_true rfl) (Nat.le_of_ble_eq_true rfl) ?_
  obtain ⟨M, hM⟩ : ∃ M, M = lacksF s n := ⟨_, rfl⟩
  rw [← hM]
  unfold lacksF at hM
  ((refine go0 ?_ <;> repeat (refine dr ?_; refine go0 ?_)) <;> try exact nop)
  refine callC (specValidStore s hs) ?_
  cases hv : validSt s with
  | false =>
    rw [if_pos (.inl hv)] at hM
    subst hM
    ((refine go0 ?_ <;> repeat (refine dr ?_; refine go0 ?_)) <;> try exact nop)
  | true =>
  by_cases hn : (n.size : Int) = s.w
  rotate_left
  · rw [if_pos (.inr hn)] at hM
    subst hM
    (have zF := hn; (refine go0 ?_ <;> repeat (refine dr ?_; refine go0 ?_)) <;> first | exact nop | clear zF)
  rw [if_neg (by rintro (q | q); rw [hv] at q; cases q; exact q hn)] at hM
  (have zF := hn; (refine go0 ?_ <;> repeat (refine dr ?_; refine go0 ?_)) <;> first | exact nop | clear zF)
  refine callC (l4List s n hs) ?_
  have hlo := list_ok (s := s) (n := n)
  generalize listF s n = R at *
  obtain ⟨l, b⟩ := R
  simp only at hM hlo ⊢
  cases b with
  | false =>
    rw [if_pos rfl] at hM
    subst hM
    ((refine go0 ?_ <;> repeat (refine dr ?_; refine go0 ?_)) <;> try exact nop)
  | true =>
  rw [if_neg (by simp)] at hM
  have hl := hlo.1
  ((refine go0 ?_ <;> repeat (refine dr ?_; refine go0 ?_)) <;> try exact nop)
  refine loop_ind (α := Nat × List Str) (fun q => q.1 ≤ l.S.length ∧ q.2.length ≤ q.1 ∧ lackL s.w s.I q.2 (l.S.drop q.1) = M)
    (fun q => ⟨[(2, .pt 1 0 0), (5, .ow 2 0 q.2.length), (6, .pt 3 0 0), (8, .sc (.int .i64 q.1))], [(1, .bx (storeC false s)), (2, .ar 1 0 (q.2.map strR)), (3, .bx [.sc (.int .i64 l.sz), .ow 4 0 l.S.length]), (4, .ar 1 0 (l.S.map strR))], 5⟩) (fun q => l.S.length - q.1) (0, []) ⟨Nat.zero_le _, Nat.le_refl _, by rw [hM]; rfl⟩ ?_ ?_
  · ((refine go0 ?_) <;> try exact nop)
  rintro ⟨j, acc⟩ ⟨hj, ha, hy⟩ ih
  replace hj : j ≤ l.S.length := hj
  replace ha : acc.length ≤ j := ha
  replace hy : lackL s.w s.I acc (l.S.drop j) = M := hy
  by_cases h : j < l.S.length
  · obtain ⟨x, hx⟩ := ex_get h
    rw [drop_step hx, lackL] at hy
    (have zF := an h hx; (refine go0 ?_ <;> repeat (refine dr ?_; refine go0 ?_)) <;> first | exact nop | clear zF)
    refine callC (l4At s x hs) ?_
    by_cases e1 : atI s.w x s.I < 0
    rotate_left
    · rw [if_neg (fun q => e1 q.1)] at hy
      (have zF := an h (an hx e1); (refine go0 ?_ <;> repeat (refine dr ?_; refine go0 ?_)) <;> first | exact nop | clear zF)
      refine ih (j + 1, acc) _ (by show l.S.length - (j + 1) < l.S.length - j; omega) ⟨h, by show acc.length ≤ j + 1; omega, hy⟩ ?_
      ((refine go1 ?_) <;> try exact nop)
    (have zF := an h (an hx e1); (refine go0 ?_ <;> repeat (refine dr ?_; refine go0 ?_)) <;> first | exact nop | clear zF)
    refine callC (l2In acc x (by omega)) ?_
    cases e2 : inL acc x with
    | true =>
      rw [if_neg (by rintro ⟨_, q⟩; rw [e2] at q; cases q)] at hy
      (have zF := an h (an hx e1); (refine go0 ?_ <;> repeat (refine dr ?_; refine go0 ?_)) <;> first | exact nop | clear zF)
      refine ih (j + 1, acc) _ (by show l.S.length - (j + 1) < l.S.length - j; omega) ⟨h, by show acc.length ≤ j + 1; omega, hy⟩ ?_
      ((refine go1 ?_) <;> try exact nop)
    | false =>
      rw [if_pos ⟨e1, e2⟩] at hy
      (have zF := an h (an hx e1); (refine go0 ?_ <;> repeat (refine dr ?_; refine go0 ?_)) <;> first | exact nop | clear zF)
      refine ih (j + 1, acc ++ [x]) _ (by show l.S.length - (j + 1) < l.S.length - j; omega) ⟨h, by simp only [List.length_append, List.length_cons, List.length_nil]; omega, hy⟩ ?_
      ((refine rF44_3 ?_) <;> try exact nop)
  · rw [List.drop_eq_nil_of_le (by omega), lackL] at hy
    subst hy
    (have zF := h; (refine go0 ?_ <;> repeat (refine dr ?_; refine go0 ?_)) <;> first | exact nop | clear zF)
def E41 : Env := { T := T0, kp := look [(0, [0, 1]), (1, [1, 2]), (2, []), (3, [1, 2]), (4, [1, 2, 5]), (5, [1]), (6, [1, 2, 5]), (7, [1, 2, 6, 7]), (8, [1]), (9, [2, 6]), (10, [2, 6, 8]), (11, [2, 6, 8, 49, 50, 51]), (12, [2, 6, 8, 49, 50, 51]), (13, [2, 6, 8, 10, 49, 50, 51]), (14, [2, 6, 8, 49, 50, 51]), (15, [6, 8]), (16, [6, 8, 11]), (17, [8, 11, 63, 64, 65]), (18, [8, 11, 63, 64, 65]), (19, [8, 11, 13, 63, 64, 65]), (20, [8, 11, 13, 63, 64, 65]), (21, [8, 11, 13, 63, 64, 65]), (22, [8, 11, 63, 64, 65]), (23, [11])], dp := look2 [(6, [[], [0], [], [0, 1, 2], [0, 1, 2, 3], [0, 1, 2, 3, 4], [], [6], [0, 1, 2, 3, 4, 5, 6, 7], [0, 1, 2, 3, 4, 5, 6, 7, 8], [0, 1, 2, 3, 4, 5, 6, 7, 8, 9], [0, 1, 2, 3, 4, 5, 6, 7, 8, 9], [], [0, 1, 2, 3, 4, 5, 6, 7, 8, 9, 10, 12], [0, 1, 2, 3, 4, 5, 6, 7, 8, 9, 10, 11, 12, 13]])] }
attribute [local push_cast] E41
set_option maxRecDepth 20000 in
set_option maxHeartbeats 1000000 in
theorem implLacks (s : Store) (n : Str) (hs : okStore s) : Does Tryz.prog 41 [.ag (storeC false s), .sc (.string n)] (.sl true 1 ((lacksF s n).map strR), []) := by
  refine does_of (E := E41) (rs := [.tmp 4]) (lent := []) tOk rfl Tryz.func41 rfl (by decide) rfl rfl (Nat.le_of_ble_eq_true rfl) (Nat.le_of_ble_eq_true rfl) ?_
  obtain ⟨M, hM⟩ : ∃ M, M = lacksF s n := ⟨_, rfl⟩
  rw [← hM]
  unfold lacksF at hM
  have hI := hs.1.1
  ((refine go0 ?_ <;> repeat (refine dr ?_; refine go0 ?_)) <;> try exact nop)
  refine callC (implValidStore s hs) ?_
  cases hv : validSt s with
  | false =>
    rw [if_pos (.inl hv)] at hM
    subst hM
    ((refine go0 ?_ <;> repeat (refine dr ?_; refine go0 ?_)) <;> try exact nop)
  | true =>
  by_cases hn : (n.size : Int) = s.w
  rotate_left
  · rw [if_pos (.inr hn)] at hM
    subst hM
    (have zF := hn; (refine go0 ?_ <;> repeat (refine dr ?_; refine go0 ?_)) <;> first | exact nop | clear zF)
  rw [if_neg (by rintro (q | q); rw [hv] at q; cases q; exact q hn)] at hM
  (have zF := hn; (refine go0 ?_ <;> repeat (refine dr ?_; refine go0 ?_)) <;> first | exact nop | clear zF)
  refine callC (find s n hs) ?_
  have hlo := list_ok (s := s) (n := n)
  by_cases hat : atI s.w n s.I < 0
  · have hf : listF s n = (⟨0, []⟩, false) := by unfold listF; rw [if_pos hat]
    rw [hf, if_pos rfl] at hM
    subst hM
    (have zF := hat; (refine go0 ?_ <;> repeat (refine dr ?_; refine go0 ?_)) <;> first | exact nop | clear zF)
  obtain ⟨i0, x0, h1, h2, _⟩ := at_get (w := s.w) (n := n) (I := s.I) (by omega)
  have hxt : x0.t.size ≤ 2097152 := hs.1.2 x0 (List.mem_of_getElem? h2)
  have hil := (List.getElem?_eq_some_iff.1 h2).1
  have hf : listF s n = readL x0.t s.w := by
    unfold listF
    rw [if_neg hat, h1, Int.toNat_natCast, h2]
  rw [h1]
  (have zF := h2; (refine go0 ?_ <;> repeat (refine dr ?_; refine go0 ?_)) <;> first | exact nop | clear zF)
  refine callC (implReadList x0.t s.w (by omega)) ?_
  rw [← hf]
  generalize listF s n = R at *
  obtain ⟨l, b⟩ := R
  simp only at hM hlo ⊢
  cases b with
  | false =>
    rw [if_pos rfl] at hM
    subst hM
    ((refine go0 ?_ <;> repeat (refine dr ?_; refine go0 ?_)) <;> try exact nop)
  | true =>
  rw [if_neg (by simp)] at hM
  have hl := hlo.1
  ((refine go0 ?_ <;> repeat (refine dr ?_; refine go0 ?_)) <;> try exact nop)
  refine loop_ind (α := Nat) (fun i => i ≤ s.I.length)
    (fun i => ⟨[(2, .pt 1 0 0), (6, .pt 2 0 0), (8, .mv 4), (49, .sl false 2 (s.I.map (itemC false))), (50, .sc (.int .i64 s.I.length)), (51, .sc (.int .i64 i))], [(1, .bx (storeC false s)), (2, .bx [.sc (.int .i64 l.sz), .ow 3 0 l.S.length]), (3, .ar 1 0 (l.S.map strR)), (4, .mp 0 (mset ((s.I.take i).map fun y => sumS y.t s.w)))], 5⟩) (fun i => s.I.length - i) 0 (Nat.zero_le _) ?_ ?_
  · ((refine rF44_4 ?_) <;> try exact nop)
  intro i hi ih
  by_cases h : i < s.I.length
  · obtain ⟨y, hy⟩ := ex_get h
    have hyt : y.t.size ≤ 2097152 := hs.1.2 y (List.mem_of_getElem? hy)
    have hk := mok_kok (mset_mok ((s.I.take i).map fun y => sumS y.t s.w))
    have hst : mset ((s.I.take (i + 1)).map fun y => sumS y.t s.w) = kset (mset ((s.I.take i).map fun y => sumS y.t s.w)) (.string (sumS y.t s.w)) (.bool true) := by
      rw [take_step hy, List.map_append]; exact mset_app _ _
    generalize mset ((s.I.take i).map fun y => sumS y.t s.w) = E at *
    (have zF := an h hy; (refine go0 ?_ <;> repeat (refine dr ?_; refine go0 ?_)) <;> first | exact nop | clear zF)
    refine callC (implSum y.t s.w (by omega)) ?_
    (have zF := an h (an hy hk.1); (refine rF44_0 ?_ <;> repeat (refine dr ?_; refine rF44_0 ?_)) <;> first | exact nop | clear zF)
    refine ih (i + 1) _ (by omega) h ?_
    rw [hst]
    ((refine go1 ?_) <;> try exact nop)
  rw [show s.I.take i = s.I from List.take_of_length_le (by omega)]
  clear ih
  obtain ⟨Z, hZ⟩ : ∃ Z, Z = s.I.map fun y => sumS y.t s.w := ⟨_, rfl⟩
  rw [← hZ]
  (have zF := h; (refine go0 ?_ <;> repeat (refine dr ?_; refine go0 ?_)) <;> first | exact nop | clear zF)
  refine loop_ind (α := Nat × List Str) (fun q => q.1 ≤ l.S.length ∧ q.2.length ≤ q.1 ∧ lackL s.w s.I q.2 (l.S.drop q.1) = M)
    (fun q => ⟨[(8, .mv 1), (11, .ow 2 0 q.2.length), (63, .ow 3 0 l.S.length), (64, .sc (.int .i64 l.S.length)), (65, .sc (.int .i64 q.1))], [(1, .mp 0 (mset (Z ++ q.2))), (2, .ar 1 0 (q.2.map strR)), (3, .ar 1 0 (l.S.map strR))], 4⟩) (fun q => l.S.length - q.1) (0, []) ⟨Nat.zero_le _, Nat.le_refl _, by rw [hM]; rfl⟩ ?_ ?_
  · ((refine rF44_5 ?_) <;> try exact nop)
  rintro ⟨j, acc⟩ ⟨hj, ha, hy⟩ ih
  replace hj : j ≤ l.S.length := hj
  replace ha : acc.length ≤ j := ha
  replace hy : lackL s.w s.I acc (l.S.drop j) = M := hy
  have hk := mok_kok (mset_mok (Z ++ acc))
  have hk2 := hk.2
  simp only [plain] at hk2
  by_cases h7 : j < l.S.length
  · obtain ⟨x, hx⟩ := ex_get h7
    rw [drop_step hx, lackL] at hy
    have hat2 : atI s.w x s.I < 0 ↔ inL Z x = false := by rw [hZ]; exact at_neg
    cases e : inL (Z ++ acc) x with
    | true =>
      have hc : ¬ (atI s.w x s.I < 0 ∧ inL acc x = false) := by
        rintro ⟨q1, q2⟩
        rw [inL_app, hat2.1 q1, q2] at e; cases e
      rw [if_neg hc] at hy
      (have zF := an h7 (an hx (an hk.1 (an hk2 e))); (refine rF44_1 ?_ <;> repeat (refine dr ?_; refine rF44_1 ?_)) <;> first | exact nop | clear zF)
      refine ih (j + 1, acc) _ (by show l.S.length - (j + 1) < l.S.length - j; omega) ⟨h7, by show acc.length ≤ j + 1; omega, hy⟩ ?_
      ((refine go1 ?_) <;> try exact nop)
    | false =>
      have hc : atI s.w x s.I < 0 ∧ inL acc x = false := by
        rw [inL_app, Bool.or_eq_false_iff] at e
        exact ⟨hat2.2 e.1, e.2⟩
      rw [if_pos hc] at hy
      have hst := mset_app (Z ++ acc) x
      rw [List.append_assoc] at hst
      (have zF := an h7 (an hx (an hk.1 (an hk2 e))); (refine rF44_2 ?_ <;> repeat (refine dr ?_; refine rF44_2 ?_)) <;> first | exact nop | clear zF)
      refine ih (j + 1, acc ++ [x]) _ (by show l.S.length - (j + 1) < l.S.length - j; omega) ⟨h7, by simp only [List.length_append, List.length_cons, List.length_nil]; omega, hy⟩ ?_
      (have zF := hst; (refine rF44_3 ?_) <;> first | exact nop | clear zF)
  · rw [List.drop_eq_nil_of_le (by omega), lackL] at hy
    subst hy
    (have zF := h7; (refine go0 ?_ <;> repeat (refine dr ?_; refine go0 ?_)) <;> first | exact nop | clear zF)
end Go.Proofs.YtkkmgjhfjhcdmaaGreatDoor.Mx

namespace Go.Proofs.YtkkmgjhfjhcdmaaGreatDoor.Mx
open Go Go.RowKit
theorem lacksOk (s : Store) (n : Str) (hn : n.size ≤ 2097152) : okL okStr (lacksF s n) := by
  have hl := list_ok (s := s) (n := n)
  unfold lacksF
  split
  · exact ⟨Nat.zero_le _, fun a h => by cases h⟩
  · split
    · exact ⟨by simp, fun a h => by rw [List.mem_singleton.1 h]; exact hn⟩
    · have h2 := lackL_len s.w s.I (listF s n).1.S []
      have h3 : ∀ (L acc : List Str), (∀ x ∈ acc, x.size ≤ 8) → (∀ x ∈ L, x.size ≤ 8) → ∀ x ∈ lackL s.w s.I acc L, x.size ≤ 8 := by
        intro L
        induction L with
        | nil => intro acc h _; exact h
        | cons x r ih =>
          intro acc h h2
          rw [lackL]
          refine ih _ ?_ (fun y hy => h2 y (by simp [hy]))
          split
          · intro y hy
            rcases List.mem_append.1 hy with hy | hy
            · exact h y hy
            · rw [List.mem_singleton.1 hy]; exact h2 x (by simp)
          · exact h
      rw [List.length_nil] at h2
      refine ⟨by omega, fun a ha => ?_⟩
      have := h3 _ [] (by simp) hl.2 a ha
      show a.size ≤ 2097152
      omega
def decT (Q : List Peer) (i : Nat) : List Peer := (Q.take i).map decP ++ Q.drop i
theorem decT_len (Q : List Peer) (i : Nat) : (decT Q i).length = Q.length := by unfold decT; simp; omega
theorem decT_zero (Q : List Peer) : decT Q 0 = Q := by unfold decT; simp
theorem decT_all (Q : List Peer) : decT Q Q.length = Q.map decP := by unfold decT; simp
theorem decT_get {Q : List Peer} {i : Nat} {p : Peer} (h : Q[i]? = some p) : (decT Q i)[i]? = some p := by
  have hi := (List.getElem?_eq_some_iff.1 h).1
  unfold decT
  rw [List.getElem?_append_right (by simp; omega)]
  simp only [List.length_map, List.length_take, Nat.min_eq_left (Nat.le_of_lt hi), Nat.sub_self, List.getElem?_drop, Nat.add_zero]
  exact h
theorem decT_step {Q : List Peer} {i : Nat} {p : Peer} (h : Q[i]? = some p) : (decT Q i).set i (decP p) = decT Q (i + 1) := by
  have hi := (List.getElem?_eq_some_iff.1 h).1
  unfold decT
  rw [List.set_append_right _ _ (by simp; omega)]
  rw [take_step h, List.map_append, drop_step h]
  simp only [List.length_map, List.length_take, Nat.min_eq_left (Nat.le_of_lt hi), Nat.sub_self, List.set_cons_zero, List.map_cons, List.map_nil, List.append_assoc, List.cons_append, List.nil_append]
theorem decT_same {Q : List Peer} {i : Nat} {p : Peer} (h : Q[i]? = some p) (e : decP p = p) : decT Q i = decT Q (i + 1) := by
  rw [← decT_step h, e]
  refine List.ext_getElem? fun k => ?_
  rw [List.getElem?_set]
  have := decT_get h
  have hi := (List.getElem?_eq_some_iff.1 this).1
  split
  · rename_i q; subst q; exact this
  · rfl
theorem decP_N (p : Peer) : (decP p).N = p.N := by unfold decP; split <;> rfl
theorem decP_ok {p : Peer} (h : okPeer p) : okPeer (decP p) := by
  unfold decP
  split
  · refine ⟨?_, h.2⟩
    show okStr (if p.wait - 1 = 0 then ⟨#[]⟩ else p.ask)
    split
    · exact Nat.zero_le _
    · exact h.1
  · exact h
theorem decQ_ok {Q : List Peer} (h : okL okPeer Q) : okL okPeer (Q.map decP) := ⟨by rw [List.length_map]; exact h.1, fun a ha => by
  obtain ⟨p, hp, rfl⟩ := List.mem_map.1 ha
  exact decP_ok (h.2 p hp)⟩
theorem pick_ok {Q : List Peer} {p : Peer} : ∀ {L : List Str}, (∀ x ∈ L, okStr x) → okStr (pickL Q p L)
  | [], _ => Nat.zero_le _
  | x :: r, h => by
    rw [pickL]
    split
    · exact h x (by simp)
    · exact pick_ok fun y hy => h y (by simp [hy])
theorem ask1_ok {now : Int} {L : List Str} {q : List Peer × List Message} {i : Nat} (h : okL okPeer q.1) (hL : ∀ x ∈ L, okStr x) : okL okPeer (ask1 now L q i).1 := by
  refine ⟨by rw [ask1_len]; exact h.1, ?_⟩
  unfold ask1
  split
  · exact h.2
  · rename_i p hp
    split
    · exact h.2
    · intro a ha
      rcases List.mem_or_eq_of_mem_set ha with q | q
      · exact h.2 a q
      · rw [q]
        exact ⟨pick_ok hL, (h.2 p (List.mem_of_getElem? hp)).2⟩
theorem ask1_out {now : Int} {L : List Str} {q : List Peer × List Message} {i : Nat} (h : okL okMessage q.2) (hl : q.2.length ≤ 2097151) (hL : ∀ x ∈ L, okStr x) : okL okMessage (ask1 now L q i).2 ∧ (ask1 now L q i).2.length ≤ q.2.length + 1 := by
  unfold ask1
  split
  · exact ⟨h, by omega⟩
  · rename_i p hp
    split
    · exact ⟨h, by omega⟩
    · refine ⟨⟨by simp; omega, fun a ha => ?_⟩, by simp⟩
      rcases List.mem_append.1 ha with q | q
      · exact h.2 a q
      · rw [List.mem_singleton.1 q]
        exact ⟨pick_ok hL, Nat.zero_le _⟩
theorem runT_go {now : Int} {L : List Str} {S : List Bool} {q : List Peer × List Message} {k : Nat} (h : nextF q.1 S q.1.length = k) : runT now L S q = runT now L (S.set k true) (ask1 now L q k) := by
  rw [runT, dif_pos (by omega), h, Int.toNat_natCast]
theorem runT_end {now : Int} {L : List Str} {S : List Bool} {q : List Peer × List Message} (h : nextF q.1 S q.1.length < 0) : runT now L S q = q := by
  rw [runT, dif_neg (by omega)]
theorem runT_ok (now : Int) {L : List Str} (hL : ∀ x ∈ L, okStr x) : ∀ (n : Nat) (S : List Bool) (q : List Peer × List Message), cntF S ≤ n → okL okPeer q.1 → okL okMessage q.2 → q.2.length + n ≤ 2097152 →
    okL okPeer (runT now L S q).1 ∧ okL okMessage (runT now L S q).2 ∧ (runT now L S q).1.length = q.1.length
  | n, S, q, hn, h1, h2, hl => by
    by_cases h : nextF q.1 S q.1.length < 0
    · rw [runT_end h]; exact ⟨h1, h2, rfl⟩
    · obtain ⟨k, hk⟩ : ∃ k : Nat, nextF q.1 S q.1.length = k := ⟨(nextF q.1 S q.1.length).toNat, by omega⟩
      obtain ⟨p, _, hs, _⟩ := next_free q.1 S q.1.length k hk
      have hc := cnt_set hs
      rw [runT_go hk]
      obtain ⟨o1, o2⟩ := ask1_out (now := now) (L := L) (i := k) h2 (by omega) hL
      match n, hn, hl with
      | 0, hn, hl => omega
      | n + 1, hn, hl =>
        have := runT_ok now hL n (S.set k true) (ask1 now L q k) (by omega) (ask1_ok h1 hL) o1 (by omega)
        rw [ask1_len] at this
        exact this
theorem cnt_new (n : Nat) : cntF (List.replicate n false) = n := by
  unfold cntF
  induction n with
  | zero => rfl
  | succ n ih => rw [List.replicate_succ, List.countP_cons, ih]; rfl
theorem emFok : okFetch emF := ⟨Nat.zero_le _, emS_ok, Nat.zero_le _, fun a h => by cases h⟩
theorem ftick_ok {f : Fetch} (hf : okFetch f) (hq : f.Q.length ≤ 5) : okFetch (ftickF f).1 ∧ okL okMessage (ftickF f).2 := by
  have nil : okL okMessage ([] : List Message) := ⟨Nat.zero_le _, fun a h => by cases h⟩
  unfold ftickF tickF
  split
  · split
    · exact ⟨hf, nil⟩
    · split
      · exact ⟨⟨hf.1, hf.2.1, decQ_ok hf.2.2⟩, nil⟩
      · have := runT_ok (f.now + 1) (L := lacksF f.st f.nm) (lacksOk f.st f.nm hf.1).2 f.Q.length (List.replicate f.Q.length false) (f.Q.map decP, []) (by rw [cnt_new]; exact Nat.le_refl _) (decQ_ok hf.2.2) nil (by simp; omega)
        exact ⟨⟨hf.1, hf.2.1, this.1⟩, this.2.1⟩
  · exact ⟨emFok, nil⟩
theorem now_of {f : Fetch} (hv : validF f = true) : 0 ≤ f.now ∧ f.now ≤ 1000000 ∧ f.Q.length ≤ 5 := by
  unfold validF at hv
  simp only [Bool.and_eq_true, decide_eq_true_eq, inB] at hv
  omega
end Go.Proofs.YtkkmgjhfjhcdmaaGreatDoor.Mx

namespace Go.Proofs.YtkkmgjhfjhcdmaaGreatDoor.Mx
open Go Go.RowKit
def natR (k : Nat) : Row := [.sc (.int .i64 k)]
@[push_cast] theorem flat_Nat (l : List Nat) : flatR (l.map natR) = true := by simp [flatR, natR, isSc]
@[push_cast] theorem own_Nat (l : List Nat) : (l.map natR).all (fun row => row.all own2) = true := by simp [natR, own2]
@[push_cast] theorem rd_Nat (l : List Nat) : rdR (l.map natR) = l.map natR := by simp [rdR, natR, rdC]
attribute [push_cast] natR
def asksT (Q : List Peer) (i : Nat) : List Str := ((Q.take i).filter fun p => decide (0 < p.wait)).map (·.ask)
def freeT (Q : List Peer) (i : Nat) : List Nat := (List.range i).filter fun k => match Q[k]? with | some p => freeP p | none => false
theorem asks_step {Q : List Peer} {i : Nat} {p : Peer} (h : Q[i]? = some p) : asksT Q (i + 1) = if 0 < p.wait then asksT Q i ++ [p.ask] else asksT Q i := by
  unfold asksT
  rw [take_step h, List.filter_append, List.map_append]
  by_cases w : 0 < p.wait <;> simp [w]
theorem free_step {Q : List Peer} {i : Nat} {p : Peer} (h : Q[i]? = some p) : freeT Q (i + 1) = if freeP p = true then freeT Q i ++ [i] else freeT Q i := by
  unfold freeT
  rw [List.range_succ, List.filter_append]
  by_cases w : freeP p = true <;> simp [h, w]
theorem free_len (Q : List Peer) (i : Nat) : (freeT Q i).length ≤ i := by
  unfold freeT
  exact Nat.le_trans (List.length_filter_le ..) (by simp)
theorem decQ_get {Q : List Peer} {i : Nat} {p : Peer} (h : Q[i]? = some p) : (Q.map decP)[i]? = some (decP p) := by rw [List.getElem?_map, h]; rfl
theorem ask1_at {now : Int} {L : List Str} {Q : List Peer} {W : List Message} {i : Nat} {p : Peer} (hp : Q[i]? = some p) : ask1 now L (Q, W) i = if pickL Q p L = (⟨#[]⟩ : Str) then (Q, W) else (Q.set i ⟨p.lies, 5, now, pickL Q p L, p.N⟩, W ++ [⟨0, i + 1, pickL Q p L, false, ⟨#[]⟩⟩]) := by
  show (match Q[i]? with | none => _ | some p => _) = _
  rw [hp]
theorem any_set {α : Type} (f : α → Bool) : ∀ {l : List α} {i : Nat} {a b : α}, l[i]? = some a → f a = false → (l.set i b).any f = (l.any f || f b)
  | [], i, a, b, h, _ => by simp at h
  | c :: r, 0, a, b, h, hf => by
    simp only [List.getElem?_cons_zero, Option.some.injEq] at h
    subst h
    simp only [List.set_cons_zero, List.any_cons, hf, Bool.false_or]
    rw [Bool.or_comm]
  | c :: r, i + 1, a, b, h, hf => by
    rw [List.set_cons_succ, List.any_cons, any_set f (l := r) (by simpa using h) hf, List.any_cons, Bool.or_assoc]
theorem asked_set {Q : List Peer} {i : Nat} {p : Peer} {a b : Int} {u : Str} {N : List Str} (hp : Q[i]? = some p) (hw : p.wait = 0) (x : Str) : askedB (Q.set i ⟨a, 5, b, u, N⟩) x = (askedB Q x || decide (u = x)) := by
  unfold askedB
  rw [any_set _ hp (by simp [hw])]
  simp
theorem asks_asked {Q : List Peer} (x : Str) : inL (asksT Q Q.length) x = askedB Q x := by
  unfold asksT askedB inL
  rw [List.take_length]
  induction Q with
  | nil => rfl
  | cons p r ih =>
    by_cases w : 0 < p.wait
    · simp [w, ih]
    · simp [w, ih]
end Go.Proofs.YtkkmgjhfjhcdmaaGreatDoor.Mx

namespace Go.Proofs.YtkkmgjhfjhcdmaaGreatDoor.Mx
open Go Go.RowKit
theorem list_pos {s : Store} {n : Str} : ∀ x ∈ (listF s n).1.S, x.size ≠ 0 := by
  unfold listF
  split
  · simp
  · split
    · rename_i x _
      cases h : (readL x.t s.w).2 with
      | false => rw [read_fst h]; simp
      | true =>
        obtain ⟨w1, _, _, _, _, hs⟩ := okLs_up (read_ok h).1
        intro y hy
        have := hs y hy
        omega
    · simp
theorem lackL_mem {w : Int} {I : List Item} : ∀ {L acc : List Str} {P : Str → Prop}, (∀ x ∈ acc, P x) → (∀ x ∈ L, P x) → ∀ x ∈ lackL w I acc L, P x
  | [], acc, P, h, _ => h
  | x :: r, acc, P, h, h2 => by
    rw [lackL]
    refine lackL_mem ?_ (fun y hy => h2 y (by simp [hy]))
    split
    · intro y hy
      rcases List.mem_append.1 hy with hy | hy
      · exact h y hy
      · rw [List.mem_singleton.1 hy]; exact h2 x (by simp)
    · exact h
theorem lacks_ne {f : Fetch} (hv : validF f = true) : ∀ x ∈ lacksF f.st f.nm, x ≠ (⟨#[]⟩ : Str) := by
  have hw : 1 ≤ f.st.w := by
    unfold validF at hv
    simp only [Bool.and_eq_true] at hv
    exact ((valid_iff f.st).1 hv.1.1.1.1).1.1
  have key : ∀ x ∈ lacksF f.st f.nm, x.size ≠ 0 := by
    unfold lacksF
    split
    · intro x h; cases h
    · rename_i h
      split
      · intro x hx
        rw [List.mem_singleton.1 hx]
        omega
      · exact lackL_mem (fun x hx => by cases hx) list_pos
  intro x hx e
  exact key x hx (by rw [e]; rfl)
def lastN (Q : List Peer) (k : Nat) : Int := match Q[k]? with | some p => p.last | none => 0
def ltP (Q : List Peer) (a b : Nat) : Bool := decide (lastN Q a < lastN Q b)
def lexP (Q : List Peer) (a b : Nat) : Prop := lastN Q a < lastN Q b ∨ (lastN Q a = lastN Q b ∧ a < b)
def insR (lt : Nat → Nat → Bool) (x : Nat) : List Nat → List Nat
  | [] => [x]
  | y :: r => if lt x y = true then y :: insR lt x r else x :: y :: r
def insAll (lt : Nat → Nat → Bool) : List Nat → List Nat → List Nat
  | acc, [] => acc
  | acc, x :: r => insAll lt (insR lt x acc) r
def sortT (Q : List Peer) (l : List Nat) : List Nat := (insAll (ltP Q) [] l).reverse
theorem insR_len (lt : Nat → Nat → Bool) (x : Nat) : ∀ acc, (insR lt x acc).length = acc.length + 1
  | [] => rfl
  | y :: r => by rw [insR]; split <;> simp [insR_len lt x r]
theorem insR_mem {lt : Nat → Nat → Bool} {x z : Nat} : ∀ {acc : List Nat}, z ∈ insR lt x acc ↔ z = x ∨ z ∈ acc
  | [] => by simp [insR]
  | y :: r => by
    rw [insR]
    split
    · simp only [List.mem_cons, insR_mem (acc := r)]
      constructor
      · rintro (h | h | h)
        · exact .inr (.inl h)
        · exact .inl h
        · exact .inr (.inr h)
      · rintro (h | h | h)
        · exact .inr (.inl h)
        · exact .inl h
        · exact .inr (.inr h)
    · simp
theorem insAll_len (lt : Nat → Nat → Bool) : ∀ l acc, (insAll lt acc l).length = acc.length + l.length
  | [], acc => rfl
  | x :: r, acc => by rw [insAll, insAll_len lt r, insR_len, List.length_cons]; omega
theorem insAll_mem {lt : Nat → Nat → Bool} {z : Nat} : ∀ {l acc : List Nat}, z ∈ insAll lt acc l ↔ z ∈ acc ∨ z ∈ l
  | [], acc => by simp [insAll]
  | x :: r, acc => by
    rw [insAll, insAll_mem (l := r), insR_mem, List.mem_cons]
    constructor
    · rintro ((h | h) | h)
      · exact .inr (.inl h)
      · exact .inl h
      · exact .inr (.inr h)
    · rintro (h | h | h)
      · exact .inl (.inr h)
      · exact .inl (.inl h)
      · exact .inr h
theorem sortT_len (Q : List Peer) (l : List Nat) : (sortT Q l).length = l.length := by unfold sortT; rw [List.length_reverse, insAll_len]; simp
theorem sortT_mem {Q : List Peer} {l : List Nat} {z : Nat} : z ∈ sortT Q l ↔ z ∈ l := by unfold sortT; rw [List.mem_reverse, insAll_mem]; simp
theorem insR_lex {Q : List Peer} {x : Nat} : ∀ {acc : List Nat}, acc.Pairwise (fun b a => lexP Q a b) → (∀ z ∈ acc, z < x) → (insR (ltP Q) x acc).Pairwise (fun b a => lexP Q a b)
  | [], _, _ => by simp [insR]
  | y :: r, h, hx => by
    obtain ⟨h1, h2⟩ := List.pairwise_cons.1 h
    have hy := hx y (by simp)
    rw [insR]
    split
    · rename_i c
      have c : lastN Q x < lastN Q y := of_decide_eq_true c
      refine List.pairwise_cons.2 ⟨fun z hz => ?_, insR_lex h2 fun z hz => hx z (by simp [hz])⟩
      rcases insR_mem.1 hz with e | e
      · subst e; exact .inl c
      · exact h1 z e
    · rename_i c
      have c : ¬ lastN Q x < lastN Q y := fun e => c (decide_eq_true e)
      refine List.pairwise_cons.2 ⟨fun z hz => ?_, h⟩
      have hzx := hx z hz
      have : lastN Q z ≤ lastN Q y := by
        rcases List.mem_cons.1 hz with e | e
        · rw [e]; exact Int.le_refl _
        · rcases h1 z e with q | q <;> omega
      unfold lexP
      omega
theorem insAll_lex {Q : List Peer} : ∀ {l acc : List Nat}, acc.Pairwise (fun b a => lexP Q a b) → l.Pairwise (· < ·) → (∀ z ∈ acc, ∀ x ∈ l, z < x) → (insAll (ltP Q) acc l).Pairwise (fun b a => lexP Q a b)
  | [], acc, h, _, _ => h
  | x :: r, acc, h, hl, hx => by
    obtain ⟨h1, h2⟩ := List.pairwise_cons.1 hl
    rw [insAll]
    refine insAll_lex (insR_lex h fun z hz => hx z hz x (by simp)) h2 fun z hz y hy => ?_
    rcases insR_mem.1 hz with e | e
    · rw [e]; exact h1 y hy
    · exact hx z e y (by simp [hy])
theorem sortT_lex {Q : List Peer} {l : List Nat} (h : l.Pairwise (· < ·)) : (sortT Q l).Pairwise (lexP Q) := by
  unfold sortT
  rw [List.pairwise_reverse]
  exact insAll_lex List.Pairwise.nil h (fun z hz => by cases hz)
theorem free_up (Q : List Peer) (i : Nat) : (freeT Q i).Pairwise (· < ·) := by
  unfold freeT
  exact List.Pairwise.filter _ List.pairwise_lt_range
theorem free_mem {Q : List Peer} {i k : Nat} (hi : i = Q.length) : k ∈ freeT Q i ↔ ∃ p, Q[k]? = some p ∧ freeP p = true := by
  subst hi
  unfold freeT
  rw [List.mem_filter, List.mem_range]
  constructor
  · rintro ⟨h, h2⟩
    obtain ⟨p, hp⟩ := ex_get h
    rw [hp] at h2
    exact ⟨p, hp, h2⟩
  · rintro ⟨p, hp, h2⟩
    exact ⟨(List.getElem?_eq_some_iff.1 hp).1, by rw [hp]; exact h2⟩
theorem lex_irr {Q : List Peer} {a : Nat} : ¬ lexP Q a a := by unfold lexP; omega
theorem sort_nodup {Q : List Peer} {l : List Nat} (h : l.Pairwise (· < ·)) : (sortT Q l).Nodup := (sortT_lex (Q := Q) h).imp fun h e => by subst e; exact lex_irr h
theorem next_min (Q : List Peer) (S : List Bool) : ∀ (i j : Nat) (p : Peer), j < i → Q[j]? = some p → S[j]? = some false → freeP p = true → 0 ≤ nextF Q S i ∧ (lastN Q (nextF Q S i).toNat < lastN Q j ∨ (lastN Q (nextF Q S i).toNat = lastN Q j ∧ (nextF Q S i).toNat ≤ j))
  | 0, j, p, h, _, _, _ => by omega
  | i + 1, j, p, hj, hp, hs, hf => by
    have hlast : ∀ b : Int, lastAt Q b = lastN Q b.toNat := fun b => rfl
    have hr := next_rng Q S i
    rw [nextF]
    by_cases e : j = i
    · subst e
      rw [hp, hs]
      simp only
      split
      · rw [Int.toNat_natCast]; omega
      · rename_i c
        have c1 : ¬ nextF Q S j < 0 := fun q => c ⟨trivial, hf, .inl q⟩
        have c2 : ¬ p.last < lastAt Q (nextF Q S j) := fun q => c ⟨trivial, hf, .inr q⟩
        have : lastN Q j = p.last := by unfold lastN; rw [hp]
        rw [hlast] at c2
        omega
    · have ih := next_min Q S i j p (by omega) hp hs hf
      split
      · rename_i u b hu hb
        split
        · rename_i c
          have : lastN Q i = u.last := by unfold lastN; rw [hu]
          rcases c.2.2 with q | q
          · omega
          · rw [hlast] at q
            rw [Int.toNat_natCast]
            omega
        · exact ih
      · exact ih
theorem run_sort (now : Int) (L : List Str) : ∀ (D : List Nat) (S : List Bool) (q : List Peer × List Message), D.Pairwise (lexP q.1) → (∀ k, k ∈ D ↔ ∃ p, q.1[k]? = some p ∧ freeP p = true ∧ S[k]? = some false) → runT now L S q = D.foldl (ask1 now L) q
  | [], S, q, _, hm => by
    refine runT_end ?_
    by_cases h : nextF q.1 S q.1.length < 0
    · exact h
    · obtain ⟨p, h1, h2, h3⟩ := next_free q.1 S q.1.length (nextF q.1 S q.1.length).toNat (by omega)
      have := (hm _).2 ⟨p, h1, h3, h2⟩
      cases this
  | k :: D, S, q, hp, hm => by
    obtain ⟨h1, h2⟩ := List.pairwise_cons.1 hp
    obtain ⟨p, g1, g2, g3⟩ := (hm k).1 (by simp)
    have hk := (List.getElem?_eq_some_iff.1 g1).1
    obtain ⟨n0, n1⟩ := next_min q.1 S q.1.length k p hk g1 g3 g2
    have hn : nextF q.1 S q.1.length = k := by
      obtain ⟨p', e1, e2, e3⟩ := next_free q.1 S q.1.length (nextF q.1 S q.1.length).toNat (by omega)
      rcases List.mem_cons.1 ((hm _).2 ⟨p', e1, e3, e2⟩) with q | q
      · omega
      · have := h1 _ q
        unfold lexP at this
        omega
    rw [runT_go hn, List.foldl_cons]
    have hkD : k ∉ D := fun h => lex_irr (h1 k h)
    have hoth : ∀ j, j ≠ k → (ask1 now L q k).1[j]? = q.1[j]? := fun j hj => by
      unfold ask1
      rw [g1]
      simp only
      split
      · rfl
      · exact List.getElem?_set_ne (Ne.symm hj)
    have hlast : ∀ j, j ∈ D → lastN (ask1 now L q k).1 j = lastN q.1 j := fun j hj => by
      unfold lastN
      rw [hoth j (fun e => hkD (e ▸ hj))]
    refine run_sort now L D _ _ (h2.imp_of_mem fun ha hb hab => ?_) fun j => ?_
    · unfold lexP at hab ⊢
      rw [hlast _ ha, hlast _ hb]
      exact hab
    · by_cases e : j = k
      · subst e
        constructor
        · intro h; exact (hkD h).elim
        · rintro ⟨_, _, _, h⟩
          have := (List.getElem?_eq_some_iff.1 g3).1
          rw [List.getElem?_set_self this] at h
          cases h
      · rw [hoth j e, List.getElem?_set_ne (Ne.symm e), ← hm j]
        simp [e]
theorem runT_sort (now : Int) (L : List Str) (Q : List Peer) : runT now L (List.replicate Q.length false) (Q, []) = (sortT Q (freeT Q Q.length)).foldl (ask1 now L) (Q, []) := by
  refine run_sort now L _ _ _ (sortT_lex (free_up Q _)) fun k => ?_
  rw [sortT_mem, free_mem rfl]
  constructor
  · rintro ⟨p, h1, h2⟩
    have := (List.getElem?_eq_some_iff.1 h1).1
    exact ⟨p, h1, h2, by rw [List.getElem?_replicate, if_pos this]⟩
  · rintro ⟨p, h1, h2, _⟩
    exact ⟨p, h1, h2⟩
theorem sort_free {Q : List Peer} {n k : Nat} (hn : n = Q.length) (h : k ∈ sortT Q (freeT Q n)) : ∃ p, Q[k]? = some p ∧ p.wait = 0 := by
  rw [sortT_mem, free_mem hn] at h
  obtain ⟨p, h1, h2⟩ := h
  refine ⟨p, h1, ?_⟩
  unfold freeP at h2
  simp only [Bool.and_eq_true, decide_eq_true_eq] at h2
  exact h2.1
end Go.Proofs.YtkkmgjhfjhcdmaaGreatDoor.Mx

namespace Go.Proofs.YtkkmgjhfjhcdmaaGreatDoor.Mx
open Go Go.RowKit
theorem pick_spec {Q : List Peer} {p : Peer} : ∀ {L : List Str}, pickL Q p L ≠ (⟨#[]⟩ : Str) → pickL Q p L ∈ L ∧ inL p.N (pickL Q p L) = false ∧ askedB Q (pickL Q p L) = false
  | [], h => (h rfl).elim
  | x :: r, h => by
    rw [pickL] at h ⊢
    split
    · rename_i hx
      exact ⟨List.mem_cons_self .., hx.1, hx.2⟩
    · rename_i hx
      rw [if_neg hx] at h
      obtain ⟨a, b⟩ := pick_spec h
      exact ⟨List.mem_cons_of_mem _ a, b⟩
structure TkI (w now : Int) (L : List Str) (n : Nat) (D : List Nat) (q : List Peer × List Message) : Prop where
  len : q.1.length = n
  ok : ∀ p ∈ q.1, peerB w now p = true
  ms : ∀ m ∈ q.2, m.fr = 0 ∧ m.has = false ∧ m.tx = em ∧ m.sum ∈ L ∧ ∃ (k : Nat) (p : Peer), m.to = k + 1 ∧ k ∉ D ∧ q.1[k]? = some p ∧ p.lies < 3 ∧ inL p.N m.sum = false ∧ p.ask = m.sum ∧ 0 < p.wait
  pw : q.2.Pairwise fun a b => a.sum ≠ b.sum ∧ a.to ≠ b.to
  fr : ∀ k ∈ D, ∃ p, q.1[k]? = some p ∧ p.lies < 3 ∧ p.wait = 0
theorem tk_step {w now : Int} {L : List Str} {n k : Nat} {D : List Nat} {q : List Peer × List Message} (hL : ∀ x ∈ L, (x.size : Int) = w) (hn : -1 ≤ now) (hd : (k :: D).Nodup) (h : TkI w now L n (k :: D) q) : TkI w now L n D (ask1 now L q k) := by
  obtain ⟨Q, W⟩ := q
  obtain ⟨h1, h2, h3, h4, h5⟩ := h
  simp only at h1 h2 h3 h4 h5
  obtain ⟨p, hp, hl, hw⟩ := h5 k (List.mem_cons_self ..)
  have hkD : k ∉ D := (List.nodup_cons.1 hd).1
  rw [ask1_at hp]
  have hk := (List.getElem?_eq_some_iff.1 hp).1
  split
  · exact ⟨h1, h2, fun m hm => by
      obtain ⟨a, b, c, d, j, p', e1, e2, e3⟩ := h3 m hm
      exact ⟨a, b, c, d, j, p', e1, fun q => e2 (List.mem_cons_of_mem _ q), e3⟩, h4, fun j hj => h5 j (List.mem_cons_of_mem _ hj)⟩
  · rename_i hu
    obtain ⟨u1, u2, u3⟩ := pick_spec hu
    generalize pickL Q p L = u at *
    obtain ⟨p1, p2, p3, p4, p5, p6⟩ := peerB_up (h2 p (List.mem_of_getElem? hp))
    refine ⟨by show (Q.set _ _).length = n; rw [List.length_set]; exact h1, fun a ha => ?_, fun m hm => ?_, ?_, fun j hj => ?_⟩
    · rcases List.mem_or_eq_of_mem_set ha with q | q
      · exact h2 a q
      · rw [q]
        exact peerB_of p1 (show 0 ≤ (5 : Int) ∧ (5 : Int) ≤ 5 by decide) ⟨hn, Int.le_refl _⟩ p4 (askB_wait (by show (0 : Int) < 5; decide) (hL u u1)) p6
    · rcases List.mem_append.1 hm with q | q
      · obtain ⟨a, b, c, d, j, p', e1, e2, e3, e4⟩ := h3 m q
        have hjk : k ≠ j := fun e => e2 (e ▸ List.mem_cons_self ..)
        exact ⟨a, b, c, d, j, p', e1, fun q => e2 (List.mem_cons_of_mem _ q), by show (Q.set _ _)[j]? = _; rw [List.getElem?_set_ne hjk]; exact e3, e4⟩
      · rw [List.mem_singleton.1 q]
        exact ⟨rfl, rfl, rfl, u1, k, _, rfl, hkD, List.getElem?_set_self hk, hl, u2, rfl, by show (0 : Int) < 5; decide⟩
    · show (W ++ _).Pairwise _
      rw [List.pairwise_append]
      refine ⟨h4, List.pairwise_singleton .., fun a ha b hb => ?_⟩
      rw [List.mem_singleton.1 hb]
      obtain ⟨_, _, _, _, j, p', e1, e2, e3, _, _, e6, e7⟩ := h3 a ha
      refine ⟨fun e => ?_, fun e => ?_⟩
      · have e : a.sum = u := e
        have : askedB Q u = true := List.any_eq_true.2 ⟨p', List.mem_of_getElem? e3, by rw [e6, e]; simp [e7]⟩
        rw [u3] at this; cases this
      · have e : a.to = (k : Int) + 1 := e
        exact e2 (by rw [show j = k by omega]; exact List.mem_cons_self ..)
    · have hjk : k ≠ j := fun e => hkD (e ▸ hj)
      show ∃ p, (Q.set _ _)[j]? = _ ∧ _
      rw [List.getElem?_set_ne hjk]
      exact h5 j (List.mem_cons_of_mem _ hj)
theorem tk_fold {w now : Int} {L : List Str} {n : Nat} (hL : ∀ x ∈ L, (x.size : Int) = w) (hn : -1 ≤ now) : ∀ {D : List Nat} {q : List Peer × List Message}, D.Nodup → TkI w now L n D q → TkI w now L n [] (D.foldl (ask1 now L) q)
  | [], _, _, h => h
  | k :: r, q, hd, h => by
    rw [List.foldl_cons]
    exact tk_fold hL hn (List.nodup_cons.1 hd).2 (tk_step hL hn hd h)
theorem lacks_sz {s : Store} {n : Str} : ∀ x ∈ lacksF s n, (x.size : Int) = s.w := by
  unfold lacksF
  split
  · intro x h; cases h
  · rename_i h
    split
    · intro x hx
      rw [List.mem_singleton.1 hx]
      exact Classical.byContradiction fun q => h (.inr q)
    · rename_i hl
      refine lackL_mem (fun x hx => by cases hx) ?_
      have hl : (listF s n).2 = true := by cases e : (listF s n).2 with | true => rfl | false => exact (hl e).elim
      unfold listF at hl ⊢
      split at hl
      · cases hl
      · rename_i h1
        rw [if_neg h1]
        split at hl
        · rename_i y hy
          obtain ⟨_, _, _, _, _, hs⟩ := okLs_up (read_ok hl).1
          exact hs
        · cases hl
theorem decP_B {w now : Int} {p : Peer} (h : peerB w now p = true) : peerB w (now + 1) (decP p) = true := by
  obtain ⟨p1, p2, p3, p4, p5, p6⟩ := peerB_up h
  unfold decP
  split
  · rename_i hw
    refine peerB_of p1 (by show 0 ≤ p.wait - 1 ∧ p.wait - 1 ≤ 5; omega) (by show -1 ≤ p.last ∧ p.last ≤ now + 1; omega) p4 ?_ p6
    show askB w (p.wait - 1) (if p.wait - 1 = 0 then _ else p.ask) = true
    split
    · rename_i e
      rw [e]
      exact askB_zero w
    · exact askB_wait (by omega) ((askB_up p5).1 hw)
  · exact peerB_of p1 p2 (by omega) p4 p5 p6
theorem tick_facts {f : Fetch} (h : validF f = true) : validF (tickF f).1 = true ∧ (tickF f).1.st = f.st ∧ (tickF f).1.nm = f.nm ∧ (tickF f).1.full = f.full ∧ (tickF f).1.Q.length = f.Q.length ∧
    TkI f.st.w (tickF f).1.now (lacksF f.st f.nm) f.Q.length [] ((tickF f).1.Q, (tickF f).2) := by
  obtain ⟨a, b, c, d, e⟩ := validF_up h
  unfold tickF
  split
  · exact ⟨h, rfl, rfl, rfl, rfl, rfl, e, (fun _ hm => nomatch hm), List.Pairwise.nil, (fun _ hk => nomatch hk)⟩
  · rename_i hnow
    have hd : ∀ p ∈ f.Q.map decP, peerB f.st.w (f.now + 1) p = true := fun p hp => by
      obtain ⟨q, hq, rfl⟩ := List.mem_map.1 hp
      exact decP_B (e q hq)
    have hlen : (f.Q.map decP).length = f.Q.length := List.length_map _
    split
    · have t : TkI f.st.w (f.now + 1) (lacksF f.st f.nm) f.Q.length [] (f.Q.map decP, []) := ⟨hlen, hd, (fun _ hm => nomatch hm), List.Pairwise.nil, (fun _ hk => nomatch hk)⟩
      exact ⟨validF_of a b (by show 0 ≤ f.now + 1 ∧ f.now + 1 ≤ 1000000; omega) (by show 1 ≤ (f.Q.map decP).length ∧ (f.Q.map decP).length ≤ 5; rw [hlen]; exact d) hd, rfl, rfl, rfl, hlen, t⟩
    · have hr := runT_sort (f.now + 1) (lacksF f.st f.nm) (f.Q.map decP)
      rw [hlen] at hr
      rw [hr]
      have t0 : TkI f.st.w (f.now + 1) (lacksF f.st f.nm) f.Q.length (sortT (f.Q.map decP) (freeT (f.Q.map decP) f.Q.length)) (f.Q.map decP, []) := ⟨hlen, hd, (fun _ hm => nomatch hm), List.Pairwise.nil, fun k hk => by
        obtain ⟨p, hp, hf⟩ := (free_mem hlen.symm).1 (sortT_mem.1 hk)
        unfold freeP at hf
        rw [Bool.and_eq_true] at hf
        exact ⟨p, hp, of_decide_eq_true hf.2, of_decide_eq_true hf.1⟩⟩
      have t := tk_fold lacks_sz (by omega) (sort_nodup (free_up _ _)) t0
      generalize (sortT (f.Q.map decP) (freeT (f.Q.map decP) f.Q.length)).foldl (ask1 (f.now + 1) (lacksF f.st f.nm)) (f.Q.map decP, []) = R at *
      exact ⟨validF_of a b (by show 0 ≤ f.now + 1 ∧ f.now + 1 ≤ 1000000; omega) (by show 1 ≤ R.1.length ∧ R.1.length ≤ 5; rw [t.len]; exact d) t.ok, rfl, rfl, rfl, t.len, t⟩
def goodW (w : World) : Prop := validF w.f = true ∧ w.up.length = w.f.Q.length ∧ w.ss.length = w.f.Q.length ∧ w.fl.length ≤ 300 ∧ (∀ s ∈ w.ss, validSt s = true ∧ s.w = w.f.st.w) ∧ ∀ m ∈ w.fl, msgB w.f.Q.length m = true
theorem msgB_up {n : Int} {m : Message} (h : msgB n m = true) : (0 ≤ m.fr ∧ m.fr ≤ n) ∧ (0 ≤ m.to ∧ m.to ≤ n) ∧ m.sum.size ≤ 8 ∧ m.tx.size ≤ 7000 := by
  unfold msgB at h
  simp only [Bool.and_eq_true] at h
  obtain ⟨⟨⟨a, b⟩, c⟩, d⟩ := h
  exact ⟨of_decide_eq_true a, of_decide_eq_true b, of_decide_eq_true c, of_decide_eq_true d⟩
theorem msgB_of {n : Int} {m : Message} (a : 0 ≤ m.fr ∧ m.fr ≤ n) (b : 0 ≤ m.to ∧ m.to ≤ n) (c : m.sum.size ≤ 8) (d : m.tx.size ≤ 7000) : msgB n m = true := by
  unfold msgB
  simp only [Bool.and_eq_true]
  exact ⟨⟨⟨decide_eq_true a, decide_eq_true b⟩, decide_eq_true c⟩, decide_eq_true d⟩
theorem send_valid {w : World} {m : Message} (h : goodW w) (hm : msgB w.f.Q.length m = true) : goodW (sendW w m) := by
  obtain ⟨a, b, c, d, g, i⟩ := id h
  unfold sendW
  split
  · refine ⟨a, b, c, by show (w.fl ++ [m]).length ≤ 300; rw [List.length_append, List.length_singleton]; omega, g, fun x hx => ?_⟩
    rcases List.mem_append.1 hx with q | q
    · exact i x q
    · rw [List.mem_singleton.1 q]; exact hm
  · exact h
theorem send_same (w : World) (m : Message) : (sendW w m).f = w.f ∧ (sendW w m).up = w.up ∧ (sendW w m).ss = w.ss ∧ (sendW w m).wa = w.wa := by
  unfold sendW
  split <;> exact ⟨rfl, rfl, rfl, rfl⟩
theorem sends_valid : ∀ {L : List Message} {w : World}, goodW w → (∀ m ∈ L, msgB w.f.Q.length m = true) → goodW (sendsW w L)
  | [], _, h, _ => h
  | m :: r, w, h, hm => by
    unfold sendsW
    rw [List.foldl_cons]
    have := send_valid h (hm m (List.mem_cons_self ..))
    exact sends_valid this fun x hx => by rw [(send_same w m).1]; exact hm x (List.mem_cons_of_mem _ hx)
theorem sends_same : ∀ (L : List Message) (w : World), (sendsW w L).f = w.f ∧ (sendsW w L).up = w.up ∧ (sendsW w L).ss = w.ss ∧ (sendsW w L).wa = w.wa
  | [], w => ⟨rfl, rfl, rfl, rfl⟩
  | m :: r, w => by
    unfold sendsW
    rw [List.foldl_cons]
    obtain ⟨a, b, c, d⟩ := sends_same r (sendW w m)
    obtain ⟨a', b', c', d'⟩ := send_same w m
    exact ⟨a.trans a', b.trans b', c.trans c', d.trans d'⟩
theorem ftick_of {f : Fetch} (h : validF f = true) : ftickF f = tickF f := by unfold ftickF; rw [if_pos h]
theorem ftake_of {f : Fetch} (m : Message) (h : validF f = true) : ftakeF f m = takeF f m := by unfold ftakeF; rw [if_pos h]
theorem width8 {s : Store} (h : validSt s = true) : 1 ≤ s.w ∧ s.w ≤ 8 := ((valid_iff s).1 h).1
theorem tick_msgs {f : Fetch} (h : validF f = true) : ∀ m ∈ (tickF f).2, msgB f.Q.length m = true := fun m hm => by
  obtain ⟨_, _, _, _, _, t⟩ := tick_facts h
  obtain ⟨a, b, c, d, k, p, e1, _, e3, _⟩ := t.ms m hm
  have hk := (List.getElem?_eq_some_iff.1 e3).1
  have hl := t.len
  have hw := width8 (validF_up h).1
  have hs := lacks_sz m.sum d
  simp only at hk hl
  exact msgB_of ⟨by rw [a]; exact Int.le_refl 0, by rw [a]; omega⟩ (by omega) (by omega) (by rw [c]; decide)
theorem tick_valid {w : World} (h : goodW w) : goodW (tickW w) := by
  obtain ⟨a, b, c, d, g, i⟩ := id h
  obtain ⟨t1, t2, t3, t4, t5, _⟩ := tick_facts a
  unfold tickW
  rw [ftick_of a]
  refine sends_valid ⟨t1, by show w.up.length = (tickF w.f).1.Q.length; rw [t5]; exact b, by show w.ss.length = (tickF w.f).1.Q.length; rw [t5]; exact c, d, (fun s hs => by
    show _ ∧ s.w = (tickF w.f).1.st.w
    rw [t2]; exact g s hs), fun m hm => ?_⟩ fun m hm => ?_
  · show msgB (tickF w.f).1.Q.length m = true
    rw [t5]; exact i m hm
  · show msgB (tickF w.f).1.Q.length m = true
    rw [t5]; exact tick_msgs a m hm
theorem rm_mem {α : Type} {l : List α} {k : Nat} {x : α} (h : x ∈ rmAt l k) : x ∈ l := by
  unfold rmAt at h
  rcases List.mem_append.1 h with q | q
  · exact List.mem_of_mem_take q
  · exact List.mem_of_mem_drop q
theorem rm_le {α : Type} (l : List α) (k : Nat) : (rmAt l k).length ≤ l.length := by
  unfold rmAt
  rw [List.length_append, List.length_take, List.length_drop]
  omega
theorem out_valid {w : World} (k : Nat) (h : goodW w) : goodW { w with fl := rmAt w.fl k } := by
  obtain ⟨a, b, c, d, g, i⟩ := id h
  exact ⟨a, b, c, Nat.le_trans (rm_le w.fl k) d, g, fun m hm => i m (rm_mem hm)⟩
theorem lies_set : ∀ {Q : List Peer} {i : Nat} {p q : Peer}, Q[i]? = some p → liesQ (Q.set i q) = liesQ Q - p.lies + q.lies
  | [], i, p, q, h => by simp at h
  | a :: r, 0, p, q, h => by
    simp only [List.getElem?_cons_zero, Option.some.injEq] at h
    subst h
    rw [List.set_cons_zero, liesQ, liesQ]; omega
  | a :: r, i + 1, p, q, h => by
    have := lies_set (Q := r) (i := i) (p := p) (q := q) (by simpa using h)
    rw [List.set_cons_succ, liesQ, liesQ, this]; omega
theorem ans_ok {s : Store} {m : Message} {n : Int} (hs : validSt s = true) (hm : msgB n m = true) (hn : 0 ≤ n) : msgB n (ansM s m) = true := by
  obtain ⟨_, h2, h3, _⟩ := msgB_up hm
  unfold ansM
  split
  · rename_i h0
    obtain ⟨x, hx, _, he⟩ := at_has h0
    have := ((valid_iff s).1 hs).2.2.2.2.2.2.1 x hx
    unfold okIt at this
    rw [Bool.and_eq_true] at this
    have := of_decide_eq_true this.1
    exact msgB_of h2 ⟨Int.le_refl 0, hn⟩ h3 (by show (textAt s m.sum).size ≤ 7000; rw [he]; omega)
  · exact msgB_of h2 ⟨Int.le_refl 0, hn⟩ h3 (by show em.size ≤ 7000; decide)
theorem recv_valid {w : World} {m : Message} (h : goodW w) (hm : msgB w.f.Q.length m = true) : goodW (recvW w m) := by
  obtain ⟨a, b, c, d, g, i⟩ := id h
  unfold recvW
  split
  · rw [ftake_of m a]
    obtain ⟨t1, t2, t3, t4, _⟩ := take_valid m a
    refine ⟨t1, by show w.up.length = (takeF w.f m).Q.length; rw [t4]; exact b, by show w.ss.length = (takeF w.f m).Q.length; rw [t4]; exact c, d, (fun s hs => by
      show _ ∧ s.w = (takeF w.f m).st.w
      rw [t2]; exact g s hs), fun x hx => by
      show msgB (takeF w.f m).Q.length x = true
      rw [t4]; exact i x hx⟩
  · split
    · rename_i s _ hs
      split
      · exact send_valid h (ans_ok (g s (List.mem_of_getElem? hs)).1 hm (by omega))
      · exact h
    · exact h
theorem bring_valid {w : World} (k : Nat) (h : goodW w) : goodW (bringW w k) := by
  unfold bringW
  split
  · exact h
  · rename_i m hm
    have := h.2.2.2.2.2 m (List.mem_of_getElem? hm)
    exact recv_valid (out_valid k h) this
theorem rm_valid {s : Store} (k : Nat) (h : validSt s = true) : validSt { s with I := rmAt s.I k } = true := by
  obtain ⟨v1, v2, v3, v4, v5, v6, v7, v8, v9⟩ := (valid_iff s).1 h
  have hsub : (rmAt s.I k).Sublist s.I := by
    unfold rmAt
    conv => rhs; rw [← List.take_append_drop k s.I]
    exact (List.Sublist.refl _).append (List.drop_sublist_drop_left _ (Nat.le_succ _))
  refine (valid_iff _).2 ⟨v1, v2, Nat.le_trans hsub.length_le v3, v4, v5, v6, fun x hx => v7 x (hsub.subset hx), v8.sublist (hsub.map _), ?_⟩
  have h1 := bytes_app (s.I.take k) (s.I.drop k)
  rw [List.take_append_drop] at h1
  have h2 := bytes_app (s.I.take k) (s.I.drop (k + 1))
  have h3 : bytes (s.I.drop (k + 1)) ≤ bytes (s.I.drop k) := by
    by_cases hk : k < s.I.length
    · obtain ⟨x, hx⟩ := ex_get hk
      rw [drop_step hx, bytes]; omega
    · rw [List.drop_eq_nil_of_le (by omega), List.drop_eq_nil_of_le (by omega)]; exact Int.le_refl _
  show bytes (rmAt s.I k) ≤ s.r
  unfold rmAt
  omega
theorem say_ok {n : Nat} {m : Message} (h : sayB n m = true) : msgB n m = true := by
  unfold sayB at h
  simp only [Bool.and_eq_true] at h
  obtain ⟨⟨⟨a, b⟩, c⟩, d⟩ := h
  have a := of_decide_eq_true a
  have b := of_decide_eq_true b
  exact msgB_of (by omega) (by rw [b]; omega) (of_decide_eq_true c) (of_decide_eq_true d)
theorem do_valid {w : World} (e : Evt) (h : goodW w) : goodW (doW w e) := by
  obtain ⟨a, b, c, d, g, i⟩ := id h
  unfold doW
  split
  · exact tick_valid h
  split
  · split
    · exact bring_valid _ h
    · exact h
  split
  · split
    · split
      · exact h
      · rename_i m hm
        exact send_valid h (i m (List.mem_of_getElem? hm))
    · exact h
  split
  · split
    · exact out_valid _ h
    · exact h
  split
  · split
    · rename_i hs
      exact send_valid h (by rw [← b]; exact say_ok hs)
    · exact h
  split
  · split
    · exact ⟨a, by show (w.up.set _ _).length = _; rw [List.length_set]; exact b, c, d, g, i⟩
    · exact h
  split
  · split
    · exact ⟨a, by show (w.up.set _ _).length = _; rw [List.length_set]; exact b, c, d, g, i⟩
    · exact h
  split
  · split
    · unfold dropW
      split
      · exact h
      · rename_i s hs
        split
        · refine ⟨a, b, by show (w.ss.set _ _).length = _; rw [List.length_set]; exact c, d, fun x hx => ?_, i⟩
          rcases List.mem_or_eq_of_mem_set hx with q | q
          · exact g x q
          · rw [q]
            have := g s (List.mem_of_getElem? hs)
            exact ⟨rm_valid _ this.1, this.2⟩
        · exact h
    · exact h
  · exact h
end Go.Proofs.YtkkmgjhfjhcdmaaGreatDoor.Mx

namespace Go.Proofs.YtkkmgjhfjhcdmaaGreatDoor.Mx
open Go Go.RowKit Go.Proofs
def E50 : Env := { T := T0, kp := look [(0, [0]), (1, [1]), (2, []), (3, [1]), (4, [1, 4]), (5, []), (6, [1]), (7, [1, 5]), (8, [1, 5, 44, 45, 46]), (9, [1, 5, 44, 45, 46]), (10, [1, 5, 7, 44, 45, 46]), (11, []), (12, [1, 5, 7, 44, 45, 46]), (13, []), (14, [1, 5, 44, 45, 46]), (15, [])] }
attribute [local push_cast] E50
set_option maxRecDepth 20000 in
set_option maxHeartbeats 4000000 in
theorem implValidFetch (f : Fetch) (hf : okFetch f) : Does Tryz.prog 50 [.ag (fetchC false f)] (.sc (.bool (validF f)), []) := by
  refine does_of (E := E50) (rs := [.tmp 2]) (lent := []) tOk rfl Tryz.func50 rfl (by decide) rfl rfl (Nat.le_of_ble_eq_true rfl) (Nat.le_of_ble_eq_true rfl) ?_
  have hl := hf.2.2.1
  have hp := hf.2.1.2.1
  obtain ⟨M, hM⟩ : ∃ M, M = validF f := ⟨_, rfl⟩
  rw [← hM]
  unfold validF at hM
  ((refine go0 ?_ <;> repeat (refine dr ?_; refine go0 ?_)) <;> try exact nop)
  refine callC (implValidStore f.st hf.2.1) ?_
  cases c1 : validSt f.st with
  | false =>
    rw [c1, Bool.false_and, Bool.false_and, Bool.false_and, Bool.false_and] at hM
    (have zF := hM; (refine go0 ?_ <;> repeat (refine dr ?_; refine go0 ?_)) <;> first | exact nop | clear zF)
  | true =>
  rw [c1, Bool.true_and] at hM
  have hasc := (validSt_asc c1).1
  ((refine go0 ?_ <;> repeat (refine dr ?_; refine go0 ?_)) <;> try exact nop)
  refine callC (timeOk ..) ?_
  cases c3 : inB f.now 0 1000000 with
  | false =>
    rw [c3, Bool.and_false, Bool.false_and, Bool.false_and] at hM
    (have zF := hM; (refine go0 ?_ <;> repeat (refine dr ?_; refine go0 ?_)) <;> first | exact nop | clear zF)
  | true =>
  rw [c3, Bool.and_true] at hM
  by_cases c4 : 1 ≤ f.Q.length
  rotate_left
  · rw [show inB f.Q.length 1 5 = false by unfold inB; exact decide_eq_false (by omega), Bool.and_false, Bool.false_and] at hM
    (have zF := hM; (refine go0 ?_ <;> repeat (refine dr ?_; refine go0 ?_)) <;> first | exact nop | clear zF)
  by_cases c5 : f.Q.length ≤ 5
  rotate_left
  · rw [show inB f.Q.length 1 5 = false by unfold inB; exact decide_eq_false (by omega), Bool.and_false, Bool.false_and] at hM
    (have zF := hM; (refine go0 ?_ <;> repeat (refine dr ?_; refine go0 ?_)) <;> first | exact nop | clear zF)
  rw [show inB f.Q.length 1 5 = true by unfold inB; exact decide_eq_true (by omega), Bool.and_true] at hM
  ((refine go0 ?_ <;> repeat (refine dr ?_; refine go0 ?_)) <;> try exact nop)
  refine callC (pinned f.st f.nm hf.2.1 (asc_parts hasc _)) ?_
  rw [hasS_inL hasc]
  cases c2 : inL f.st.P f.nm with
  | false =>
    rw [c2, Bool.false_and] at hM
    (have zF := hM; (refine go0 ?_ <;> repeat (refine dr ?_; refine go0 ?_)) <;> first | exact nop | clear zF)
  | true =>
  rw [c2, Bool.true_and] at hM
  ((refine go0 ?_ <;> repeat (refine dr ?_; refine go0 ?_)) <;> try exact nop)
  refine loop_ind (α := Nat) (fun i => i ≤ f.Q.length ∧ M = (f.Q.drop i).all (peerB f.st.w f.now)) (fun i => ⟨[(1, .pt 1 0 0), (5, .sc (.int .i64 f.st.w)), (44, .sl false 5 (f.Q.map (peerC false))), (45, .sc (.int .i64 f.Q.length)), (46, .sc (.int .i64 i))], [(1, .bx (fetchC false f))], 2⟩) (fun i => f.Q.length - i) 0 ⟨Nat.zero_le _, hM⟩ ?_ ?_
  · ((refine go0 ?_) <;> try exact nop)
  clear hM
  rintro i ⟨hi, hM⟩ ih
  by_cases h : i < f.Q.length
  rotate_left
  · rw [List.drop_eq_nil_of_le (by omega), List.all_nil] at hM
    (have zF := hM; (refine go0 ?_ <;> repeat (refine dr ?_; refine go0 ?_)) <;> first | exact nop | clear zF)
  obtain ⟨p, hx⟩ := ex_get h
  have hpN := (hf.2.2.2 p (List.mem_of_getElem? hx)).2.1
  rw [all_drop hx] at hM
  have bad : peerB f.st.w f.now p = false → M = false := fun h => by rw [hM, h, Bool.false_and]
  by_cases a1 : 0 ≤ p.lies
  rotate_left
  · have := bad (by rw [peerB, inB_def p.lies, decide_eq_false a1]; simp)
    (have zF := an hx this; (refine go0 ?_ <;> repeat (refine dr ?_; refine go0 ?_)) <;> first | exact nop | clear zF)
  by_cases a2 : p.lies ≤ 3
  rotate_left
  · have := bad (by rw [peerB, inB_def p.lies, decide_eq_false a2]; simp)
    (have zF := an hx this; (refine go0 ?_ <;> repeat (refine dr ?_; refine go0 ?_)) <;> first | exact nop | clear zF)
  by_cases a3 : 0 ≤ p.wait
  rotate_left
  · have := bad (by rw [peerB, inB_def p.wait, decide_eq_false a3]; simp)
    (have zF := an hx this; (refine go0 ?_ <;> repeat (refine dr ?_; refine go0 ?_)) <;> first | exact nop | clear zF)
  by_cases a4 : p.wait ≤ 5
  rotate_left
  · have := bad (by rw [peerB, inB_def p.wait, decide_eq_false a4]; simp)
    (have zF := an hx this; (refine go0 ?_ <;> repeat (refine dr ?_; refine go0 ?_)) <;> first | exact nop | clear zF)
  by_cases a5 : -1 ≤ p.last
  rotate_left
  · have := bad (by rw [peerB, inB_def p.last, decide_eq_false a5]; simp)
    (have zF := an hx this; (refine go0 ?_ <;> repeat (refine dr ?_; refine go0 ?_)) <;> first | exact nop | clear zF)
  by_cases a6 : p.last ≤ f.now
  rotate_left
  · have := bad (by rw [peerB, inB_def p.last, decide_eq_false a6]; simp)
    (have zF := an hx this; (refine go0 ?_ <;> repeat (refine dr ?_; refine go0 ?_)) <;> first | exact nop | clear zF)
  by_cases a7 : p.N.length ≤ 376
  rotate_left
  · have := bad (by simp [peerB, a7])
    (have zF := an hx this; (refine go0 ?_ <;> repeat (refine dr ?_; refine go0 ?_)) <;> first | exact nop | clear zF)
  have hpb : peerB f.st.w f.now p = (askB f.st.w p.wait p.ask && ascF f.st.w none p.N) := by
    rw [peerB, inB_def p.lies, inB_def p.wait, inB_def p.last, decide_eq_true a1, decide_eq_true a2, decide_eq_true a3, decide_eq_true a4, decide_eq_true a5, decide_eq_true a6, decide_eq_true a7]; rfl
  (have zF := hx; (refine go0 ?_ <;> repeat (refine dr ?_; refine go0 ?_)) <;> first | exact nop | clear zF)
  refine callC (ascending p.N f.st.w hpN) ?_
  cases a8 : ascF f.st.w none p.N with
  | false =>
    have := bad (by rw [hpb, a8, Bool.and_false])
    (have zF := this; (refine go0 ?_ <;> repeat (refine dr ?_; refine go0 ?_)) <;> first | exact nop | clear zF)
  | true =>
  rw [hpb, a8, Bool.and_true] at hM
  by_cases hw : p.wait = 0
  · by_cases h2 : p.ask = ⟨#[]⟩
    · rw [show askB f.st.w p.wait p.ask = true by rw [hw, h2]; rfl, Bool.true_and] at hM
      (have zF := an hw h2; (refine go0 ?_ <;> repeat (refine dr ?_; refine go0 ?_)) <;> first | exact nop | clear zF)
      refine ih (i + 1) _ (by omega) ⟨h, hM⟩ ?_
      ((refine go1 ?_) <;> try exact nop)
    · rw [show askB f.st.w p.wait p.ask = false by rw [hw]; unfold askB; simp [em, h2], Bool.false_and] at hM
      (have zF := an hw (an h2 hM); (refine go0 ?_ <;> repeat (refine dr ?_; refine go0 ?_)) <;> first | exact nop | clear zF)
  · have hw2 : 0 < p.wait := by omega
    by_cases h2 : (p.ask.size : Int) = f.st.w
    · rw [show askB f.st.w p.wait p.ask = true by unfold askB; rw [decide_eq_true hw2, cond_true]; exact decide_eq_true h2, Bool.true_and] at hM
      (have zF := an hw h2; (refine go0 ?_ <;> repeat (refine dr ?_; refine go0 ?_)) <;> first | exact nop | clear zF)
      refine ih (i + 1) _ (by omega) ⟨h, hM⟩ ?_
      ((refine go1 ?_) <;> try exact nop)
    · rw [show askB f.st.w p.wait p.ask = false by unfold askB; rw [decide_eq_true hw2, cond_true]; exact decide_eq_false h2, Bool.false_and] at hM
      (have zF := an hw (an h2 hM); (refine go0 ?_ <;> repeat (refine dr ?_; refine go0 ?_)) <;> first | exact nop | clear zF)
end Go.Proofs.YtkkmgjhfjhcdmaaGreatDoor.Mx

namespace Go.Proofs.YtkkmgjhfjhcdmaaGreatDoor.Mx
open Go Go.RowKit Go.Proofs
theorem rF16_0 {p q : Prop} (k : q) (h : p = q := by conv => lhs; simp -dsimp (disch := first | omega | (simp only [zF, List.take_length, LR] <;> omega) | fail) only [push_cast, zF, List.take_length, simprocAttr, -Nat.reduceSubDiff]) : p := h.mpr k
theorem rF16_1 {p q : Prop} (k : q) (h : p = q := by conv => lhs; simp -dsimp (disch := first | omega | (simp only [zF, List.take_length, List.drop_eq_nil_of_le, LR] <;> omega) | fail) only [push_cast, zF, List.take_length, List.drop_eq_nil_of_le, simprocAttr, -Nat.reduceSubDiff]) : p := h.mpr k
theorem rF16_2 {p q : Prop} (k : q) (h : p = q := by conv => lhs; simp -dsimp (disch := first | omega | (simp only [zF, List.take_zero, LR] <;> omega) | fail) only [push_cast, zF, List.take_zero, simprocAttr, -Nat.reduceSubDiff]) : p := h.mpr k
theorem rF16_3 {p q : Prop} (k : q) (h : p = q := by conv => lhs; simp -dsimp (disch := first | omega | (simp only [zF, wr_id, List.map_append, LR] <;> omega) | fail) only [push_cast, zF, wr_id, List.map_append, simprocAttr, -Nat.reduceSubDiff]) : p := h.mpr k
theorem rF16_4 {p q : Prop} (k : q) (h : p = q := by conv => lhs; simp -dsimp (disch := first | omega | (simp only [zF, List.take_zero, List.drop_zero, List.map_replicate, em, LR] <;> omega) | fail) only [push_cast, zF, List.take_zero, List.drop_zero, List.map_replicate, em, simprocAttr, -Nat.reduceSubDiff]) : p := h.mpr k
theorem len_take_le {α : Type} (l : List α) {i : Nat} (h : i ≤ l.length) : (l.take i).length = i := by rw [List.length_take]; omega
def E84 : Env := { T := T0, kp := look [(0, [0]), (1, [1, 2]), (2, [1, 2, 3]), (3, [1, 2, 3, 4]), (4, [1, 2, 3, 4]), (5, [1, 2, 3, 4]), (6, [1, 2, 3, 4, 5]), (7, [1, 2, 3, 4, 5]), (8, [2, 3])], dp := look2 [(1, [[], [0], [], [2], [], [4], [], [6], [6, 7], [0, 1, 2, 3, 4, 5, 6, 7, 8], [], [0, 1, 2, 3, 4, 5, 6, 7, 8, 9, 10]])] }
attribute [local push_cast] E84
set_option maxHeartbeats 1000000 in
theorem l7Copy (f : Fetch) (hf : okFetch f) : Does Tryz.prog 84 [.ag (fetchC false f)] (.ag (fetchC true f), []) := by
  refine does_of (E := E84) (rs := [.cell 2 53]) (lent := []) tOk rfl Tryz.func84 rfl (by decide) rfl rfl (Nat.le_of_ble_eq_true rfl) (Nat.le_of_ble_eq_true rfl) ?_
  have hl := hf.2.2.1
  obtain ⟨C, hC⟩ : ∃ C, C = fetchC true f := ⟨_, rfl⟩
  rw [← hC]
  ((refine go0 ?_ <;> repeat (refine dr ?_; refine go0 ?_)) <;> try exact nop)
  refine callC (l4Copy f.st hf.2.1) ?_
  ((refine go0 ?_ <;> repeat (refine dr ?_; refine go0 ?_)) <;> try exact nop)
  refine loop_ind (α := Nat) (fun i => i ≤ f.Q.length) (fun i => ⟨[(1, .pt 1 0 0), (2, .pt 2 0 0), (3, .pt 6 0 0), (4, .sc (.int .i64 i))],
    [(1, .bx (fetchC false f)), (2, .bx [.sc (.string ⟨#[]⟩), .sc (.int .i64 0), .sc (.bool false), .sc (.int .i64 0), .sc (.int .i64 0), .ow 3 0 0, .ow 4 0 0, .ow 5 0 0]), (3, .ar 2 0 []), (4, .ar 1 0 []), (5, .ar 5 0 []),
     (6, .bx [.sc (.string f.nm), .sc (.int .i64 f.now), .sc (.bool f.full), .sc (.int .i64 f.st.w), .sc (.int .i64 f.st.r), .ow 7 0 f.st.I.length, .ow 8 0 f.st.P.length, .ow 9 0 i]), (7, .ar 2 0 (f.st.I.map (itemC true))), (8, .ar 1 0 (f.st.P.map strR)), (9, .ar 5 0 ((f.Q.take i).map (peerC true)))], 10⟩) (fun i => f.Q.length - i) 0 (Nat.zero_le _) ?_ ?_
  · ((refine rF16_2 ?_) <;> try exact nop)
  intro i hi ih
  by_cases h : i < f.Q.length
  · obtain ⟨p, hx⟩ := ex_get h
    have hpN := (hf.2.2.2 p (List.mem_of_getElem? hx)).2.1
    have hq := len_take_le f.Q hi
    have hst := take_step hx
    (have zF := an hx hq; (refine go0 ?_ <;> repeat (refine dr ?_; refine go0 ?_)) <;> first | exact nop | clear zF)
    refine ih (i + 1) _ (by omega) h ?_
    (have zF := hst; (refine rF16_3 ?_) <;> first | exact nop | clear zF)
  · have ht : f.Q.take i = f.Q := List.take_of_length_le (by omega)
    have hi : i = f.Q.length := by omega
    (have zF := an ht (an hi hC); (refine rF16_0 ?_ <;> repeat (refine dr ?_; refine rF16_0 ?_)) <;> first | exact nop | clear zF)
def E91 : Env := { T := T0, kp := look [(0, [0]), (1, [1, 2]), (2, [1, 2]), (3, [1, 2, 3]), (4, [1, 2, 3, 15, 16, 17]), (5, [1, 2, 3, 15, 16, 17]), (6, [1, 2, 3, 4, 5, 15, 16, 17]), (7, [1, 2, 3, 4, 5, 15, 16, 17]), (8, [1, 2, 3, 15, 16, 17]), (9, [1, 2, 3]), (10, [1, 2])] }
attribute [local push_cast] E91
set_option maxHeartbeats 1000000 in
theorem copyFetch (f : Fetch) (hf : okFetch f) : Does Tryz.prog 91 [.ag (fetchC false f)] (.ag (fetchC true f), []) := by
  refine does_of (E := E91) (rs := [.cell 2 53]) (lent := []) tOk rfl Tryz.func91 rfl (by decide) rfl rfl (Nat.le_of_ble_eq_true rfl) (Nat.le_of_ble_eq_true rfl) ?_
  have hl := hf.2.2.1
  obtain ⟨C, hC⟩ : ∃ C, C = fetchC true f := ⟨_, rfl⟩
  rw [← hC]
  ((refine go0 ?_ <;> repeat (refine dr ?_; refine go0 ?_)) <;> try exact nop)
  refine callC (copyStore f.st hf.2.1) ?_
  obtain ⟨Z, hZ⟩ : ∃ Z : Peer, Z = ⟨0, 0, 0, em, []⟩ := ⟨_, rfl⟩
  ((refine go0 ?_ <;> repeat (refine dr ?_; refine go0 ?_)) <;> try exact nop)
  refine loop_ind (α := Nat) (fun i => i ≤ f.Q.length) (fun i => ⟨[(1, .pt 1 0 0), (2, .pt 4 0 0), (3, .ow 8 0 f.Q.length), (15, .sl false 5 (f.Q.map (peerC false))), (16, .sc (.int .i64 f.Q.length)), (17, .sc (.int .i64 i))],
    [(1, .bx [.sc (.string f.nm), .sc (.int .i64 f.now), .sc (.bool f.full), .sc (.int .i64 f.st.w), .sc (.int .i64 f.st.r), .ow 2 0 f.st.I.length, .ow 3 0 f.st.P.length, .sl false 5 (f.Q.map (peerC false))]), (2, .ar 2 0 (f.st.I.map (itemC true))), (3, .ar 1 0 (f.st.P.map strR)),
     (4, .bx [.sc (.string ⟨#[]⟩), .sc (.int .i64 0), .sc (.bool false), .sc (.int .i64 0), .sc (.int .i64 0), .ow 5 0 0, .ow 6 0 0, .ow 7 0 0]), (5, .ar 2 0 []), (6, .ar 1 0 []), (7, .ar 5 0 []),
     (8, .ar 5 0 ((f.Q.take i ++ (List.replicate f.Q.length Z).drop i).map (peerC true)))], 9⟩) (fun i => f.Q.length - i) 0 (Nat.zero_le _) ?_ ?_
  · (have zF := hZ; (refine rF16_4 ?_) <;> first | exact nop | clear zF)
  intro i hi ih
  by_cases h : i < f.Q.length
  · obtain ⟨p, hx⟩ := ex_get h
    have hpN := (hf.2.2.2 p (List.mem_of_getElem? hx)).2.1
    have hw := get_over (a := f.Q) (b := List.replicate f.Q.length Z) (by simp) hi
    rw [List.getElem?_replicate, if_pos h] at hw
    have ee := congrArg (List.map (peerC true)) (set_over (b := List.replicate f.Q.length Z) (by simp) hx)
    rw [List.map_set] at ee
    rw [show peerC true p = [.sc (.int .i64 p.lies), .sc (.int .i64 p.wait), .sc (.int .i64 p.last), .sc (.string p.ask), .sl true 1 (p.N.map strR)] from rfl] at ee
    (have zF := an hx hw; (refine go0 ?_ <;> repeat (refine dr ?_; refine go0 ?_)) <;> first | exact nop | clear zF)
    refine ih (i + 1) _ (by omega) h ?_
    (have zF := ee; (refine go1 ?_) <;> first | exact nop | clear zF)
  · have hi : i = f.Q.length := by omega
    subst hi
    (have zF := hC; (refine rF16_1 ?_ <;> repeat (refine dr ?_; refine rF16_1 ?_)) <;> first | exact nop | clear zF)
end Go.Proofs.YtkkmgjhfjhcdmaaGreatDoor.Mx

/- A machine over values for Go functions, proved sound, and functions run on it: texts V20, F73, F54, F59, F22, F60, LStores. -/
import Derived.Test.YtkkmgjhfjhcdmaaGreatDoorStoresXah
import Derived.Test.YtkkmgjhfjhcdmaaGreatDoorStoresXai
import Derived.Test.YtkkmgjhfjhcdmaaGreatDoorStoresXaj
import Derived.Test.YtkkmgjhfjhcdmaaGreatDoorStoresXak
import Derived.Test.YtkkmgjhfjhcdmaaGreatDoorStoresXal
import Derived.Test.YtkkmgjhfjhcdmaaGreatDoorStoresXam
/- Calls on a store: what stays, what is valid; pure. -/
namespace Go.Proofs.YtkkmgjhfjhcdmaaGreatDoor.Mx
set_option linter.all false
open Go Go.RowKit
/-- a text is asked for -/
noncomputable def getF (s : Store) (n : Str) (now : Int) : (Str × Store) × Bool :=
  if (validSt s && inB now 0 1000000) = false then ((em, emS), false) else if atI s.w n s.I < 0 then ((em, emS), false)
  else ((textAt s n, { s with I := s.I.set (atI s.w n s.I).toNat ⟨textAt s n, now⟩ }), true)
theorem foldS_of : ∀ (L A : List Str) (x : Str), x ∈ L.foldl addS A → x ∈ A ∨ x ∈ L
  | [], A, x, h => .inl h
  | y :: r, A, x, h => by
    rw [List.foldl_cons] at h
    rcases foldS_of r _ x h with q | q
    · rcases addS_of q with q | q
      · exact .inl q
      · exact .inr (q ▸ List.mem_cons_self ..)
    · exact .inr (List.mem_cons_of_mem _ q)
theorem need_iff {s : Store} {x : Str} : inL (needL s) x = true ↔ ∃ p ∈ s.P, x = p ∨ x ∈ (listF s p).1.S := by
  constructor
  · intro h
    rw [inL_iff] at h
    rcases foldS_of _ _ _ h with q | q
    · cases q
    · unfold nmsL at q
      obtain ⟨p, hp, hx⟩ := List.mem_flatMap.1 q
      unfold nmsF at hx
      exact ⟨p, hp, List.mem_cons.1 hx⟩
  · rintro ⟨p, hp, h⟩
    rcases h with rfl | h
    · exact need_pin hp
    · exact need_sum hp h
theorem list_has {s : Store} {t : Str} (hv : validSt s = true) (h : has s t) : listF s (sumS t s.w) = readL t s.w := by
  obtain ⟨h0, _, k, x, h1, h2, h3⟩ := has_at hv h
  unfold listF
  rw [if_neg (by omega), h1, Int.toNat_natCast, h2]
  show readL x.t s.w = _
  rw [h3]
theorem put_need {s : Store} {t : Str} {now : Int} (e : (putF s t now).2 = 0) {x : Str} (h : inL (needL s) x = true) : inL (needL (putF s t now).1) x = true := by
  obtain ⟨hw, _, hP⟩ := put_wP e
  have hv2 := put_valid e
  have hv : validSt s = true := (put_shape e).1.1
  obtain ⟨p, hp, hx⟩ := need_iff.1 h
  refine need_iff.2 ⟨p, by rw [hP]; exact hp, ?_⟩
  rcases hx with q | q
  · exact .inl q
  · right
    by_cases h0 : atI s.w p s.I < 0
    · have : (listF s p).1.S = [] := by unfold listF; rw [if_pos h0]
      rw [this] at q; cases q
    · obtain ⟨y, hy, hys, _⟩ := at_has (s := s) (u := p) (by omega)
      have hu : has s y.t := ⟨y, hy, rfl⟩
      have hk := put_keep e hu (by rw [hys]; exact need_pin hp)
      have e1 := list_has hv hu
      have e2 := list_has hv2 hk
      rw [hw, hys] at e2
      rw [hys] at e1
      rw [e2, ← e1]
      exact q
/-- whatever is needed stays -/
def KP (s x : Store) : Prop := x.w = s.w ∧ validSt x = true ∧ ∀ u, has s u → inL (needL s) (sumS u s.w) = true → has x u
theorem kp_there {s x : Store} (h : KP s x) {u : Item} (hu : u ∈ s.I) (hn : inL (needL s) (sumS u.t s.w) = true) : 0 ≤ atI x.w (sumS u.t s.w) x.I := by
  have := (has_at h.2.1 (h.2.2 u.t ⟨u, hu, rfl⟩ hn)).1
  rwa [h.1] at this ⊢
theorem kp_put {s : Store} {t : Str} {now : Int} (e : (putF s t now).2 = 0) : KP s (putF s t now).1 := ⟨(put_wP e).1, put_valid e, fun _ hu hn => put_keep e hu hn⟩
theorem kp_puts {now : Int} : ∀ {L : List Str} {s : Store}, validSt s = true → (putsF now s L).2 = 0 → KP s (putsF now s L).1
  | [], s, hv, _ => ⟨rfl, hv, fun _ h _ => h⟩
  | u :: r, s, hv, e => by
    rw [putsF] at e ⊢
    by_cases e0 : (putF s u now).2 = 0
    · rw [if_pos e0] at e ⊢
      have h1 := kp_put e0
      obtain ⟨a, b, c⟩ := kp_puts h1.2.1 e
      refine ⟨a.trans h1.1, b, fun v hu hn => c v (h1.2.2 v hu hn) ?_⟩
      rw [h1.1]
      exact put_need e0 hn
    · rw [if_neg e0] at e; exact (e0 e).elim
theorem kp_pin {s : Store} {n : Str} (e : (pinS s n).2 = 0) : KP s (pinS s n).1 := by
  obtain ⟨hw, _, hI, _⟩ := pin_wP e
  exact ⟨hw, pin_valid e, fun u hu _ => by unfold has; rw [hI]; exact hu⟩
theorem pin_need {s : Store} {n : Str} (e : (pinS s n).2 = 0) {x : Str} (h : inL (needL s) x = true) : inL (needL (pinS s n).1) x = true := by
  obtain ⟨hw, _, hI, _⟩ := pin_wP e
  obtain ⟨p, hp, hx⟩ := need_iff.1 h
  refine need_iff.2 ⟨p, (pin_in e).2 p hp, ?_⟩
  have : listF (pinS s n).1 p = listF s p := by unfold listF; rw [hw, hI]
  rw [this]
  exact hx
theorem kp_save {s : Store} {t : Str} {now : Int} (e : (saveF s t now).2 = 0) : KP s (saveF s t now).1 := by
  obtain ⟨h1, h2, h3, _⟩ := save_split e
  rw [h3]
  have hk := kp_pin h1
  obtain ⟨a, b, c⟩ := kp_puts hk.2.1 h2
  refine ⟨a.trans hk.1, b, fun u hu hn => c u (hk.2.2 u hu hn) ?_⟩
  rw [hk.1]
  exact pin_need h1 hn
theorem woS_of {l : List Str} {n x : Str} (h : x ∈ woS l n) : x ∈ l := (List.mem_filter.1 h).1
theorem unpin_shape {s : Store} {n : Str} (e : (unpinS s n).2 = 0) : validSt s = true ∧ (unpinS s n).1 = { s with P := woS s.P n } := by
  unfold unpinS at e ⊢
  split at e
  · simp at e
  · rename_i h1
    split at e
    · simp at e
    · rename_i h2
      rw [if_neg h1, if_neg h2]
      refine ⟨?_, rfl⟩
      cases hv : validSt s with
      | true => rfl
      | false => rw [hv] at h1; simp at h1
theorem kp_unpin {s : Store} {n : Str} (e : (unpinS s n).2 = 0) : KP s (unpinS s n).1 := by
  obtain ⟨hv, h⟩ := unpin_shape e
  rw [h]
  refine ⟨rfl, ?_, fun _ hu _ => hu⟩
  obtain ⟨v1, v2, v3, v4, v5, v6, v7, v8, v9⟩ := (valid_iff s).1 hv
  rw [valid_iff]
  refine ⟨v1, v2, v3, ?_, fun x hx => v5 x (woS_of hx), v6.sublist List.filter_sublist, v7, v8, v9⟩
  have := woS_len s.P n
  show (woS s.P n).length ≤ 10
  omega
theorem get_put {s : Store} {n : Str} {now : Int} (e : (getF s n now).2 = true) : sumS (getF s n now).1.1 s.w = n ∧ has s (getF s n now).1.1 ∧ (putF s (getF s n now).1.1 now).2 = 0 ∧ (putF s (getF s n now).1.1 now).1 = (getF s n now).1.2 := by
  unfold getF at e ⊢
  split at e
  · cases e
  · rename_i h1
    split at e
    · cases e
    · rename_i h2
      rw [if_neg h1, if_neg h2]
      have hv : validSt s = true := by cases hv : validSt s with | true => rfl | false => rw [hv] at h1; simp at h1
      have hn : inB now 0 1000000 = true := by cases hn : inB now 0 1000000 with | true => rfl | false => rw [hn] at h1; simp at h1
      obtain ⟨y, hy, hys, hyt⟩ := at_has (s := s) (u := n) (by omega)
      have ht : inB (textAt s n).size 1 7000 = true := by
        have := ((valid_iff s).1 hv).2.2.2.2.2.2.1 y hy
        unfold okIt at this
        rw [Bool.and_eq_true] at this
        rw [hyt]
        exact this.1
      have hsum : sumS (textAt s n) s.w = n := by rw [hyt, hys]
      refine ⟨hsum, ⟨y, hy, hyt.symm⟩, ?_⟩
      show (putF s (textAt s n) now).2 = 0 ∧ (putF s (textAt s n) now).1 = _
      unfold putF
      rw [if_neg (by rw [hv, ht, hn]; simp), hsum, if_pos (by omega), if_pos rfl]
      exact ⟨rfl, rfl⟩
theorem kp_get {s : Store} {n : Str} {now : Int} (e : (getF s n now).2 = true) : KP s (getF s n now).1.2 := by
  obtain ⟨_, _, h1, h2⟩ := get_put e
  rw [← h2]
  exact kp_put h1
theorem get_there {s : Store} {n : Str} {now : Int} (hv : validSt s = true) (hn : inB now 0 1000000 = true) (h : 0 ≤ atI s.w n s.I) : (getF s n now).2 = true := by
  unfold getF
  rw [if_neg (by rw [hv, hn]; simp), if_neg (by omega)]
theorem get_em {s : Store} {n : Str} {now : Int} (e : (getF s n now).2 = false) : getF s n now = ((em, emS), false) := by
  unfold getF at e ⊢
  split at e
  · rw [if_pos (by assumption)]
  · split at e
    · rw [if_neg (by assumption), if_pos (by assumption)]
    · cases e
theorem get_ok {s : Store} {n : Str} {now : Int} (hs : okStore s) : okStore (getF s n now).1.2 := by
  cases e : (getF s n now).2 with
  | false => rw [get_em e]; exact emS_ok
  | true =>
    obtain ⟨_, ⟨y, hy, hyt⟩, _, h2⟩ := get_put e
    rw [← h2]
    exact put_ok hs (by rw [← hyt]; exact hs.1.2 y hy)
theorem woS_no {l : List Str} {n : Str} (h : n ∉ l) : woS l n = l := by
  unfold woS
  rw [List.filter_eq_self]
  intro x hx
  simp only [Bool.not_eq_true', decide_eq_false_iff_not]
  rintro rfl
  exact h hx
theorem woS_rm {l : List Str} {n : Str} {i : Nat} (hp : l.Pairwise ltsP) (h : l[i]? = some n) : woS l n = rmAt l i := by
  have e : l = l.take i ++ n :: l.drop (i + 1) := by
    conv => lhs; rw [← List.take_append_drop i l, drop_step h]
  have hp2 := hp
  rw [e, List.pairwise_append] at hp2
  obtain ⟨_, h2, h3⟩ := hp2
  rw [List.pairwise_cons] at h2
  have irr : ∀ a b : Str, ltsP a b → a ≠ b := fun a b hab q => by
    subst q
    have := lts_irrefl a
    unfold ltsP at hab
    rw [this] at hab; cases hab
  have w1 : woS (l.take i) n = l.take i := woS_no fun q => irr _ _ (h3 n q n (List.mem_cons_self ..)) rfl
  have w2 : woS (l.drop (i + 1)) n = l.drop (i + 1) := woS_no fun q => irr _ _ (h2.1 n q) rfl
  unfold rmAt
  conv => lhs; rw [e]
  conv => rhs; rw [← w1, ← w2]
  unfold woS
  rw [List.filter_append, List.filter_cons]
  simp
end Go.Proofs.YtkkmgjhfjhcdmaaGreatDoor.Mx

/- Get of the program and of the reference; Unpin of the program. -/
namespace Go.Proofs.YtkkmgjhfjhcdmaaGreatDoor.Mx
set_option linter.all false
open Go Go.RowKit Go.Proofs
set_option linter.unusedSimpArgs false
def E23 : Env := { T := T0, kp := look [(0, [0, 1, 2]), (1, [1, 2, 3, 7]), (2, [7]), (3, [1, 2, 3, 7]), (4, [2, 3, 7, 9]), (5, [7]), (6, [2, 3, 7, 9]), (7, [2, 7, 9, 10]), (8, [7, 9, 10])], dp := look2 [(8, [[], [0], [], [0, 1, 2], [0, 1, 2, 3], [0, 1, 2, 3, 4], [], [0, 1, 2, 3, 4, 5], [0, 1, 2, 3, 4, 5, 6, 7], [0, 1, 2, 3, 4, 5, 6, 7, 8]])] }
attribute [local push_cast] E23
set_option maxRecDepth 20000 in
set_option maxHeartbeats 1000000 in
theorem implGet (s : Store) (n : Str) (now : Int) (hs : okStore s) : Does Tryz.prog 23 [.ag (storeC false s), .sc (.string n), .sc (.int .i64 now)] (.tu [.sc (.string (getF s n now).1.1), .ag (storeC true (getF s n now).1.2), .sc (.bool (getF s n now).2)], []) := by
  refine does_of (E := E23) (rs := [.tmp 6, .cell 7 26, .tmp 8]) (lent := []) tOk rfl Tryz.func23 rfl (by decide) rfl rfl (Nat.le_of_ble_eq_true rfl) (Nat.le_of_ble_eq_true rfl) ?_
  obtain ⟨M, hM⟩ : ∃ M, M = getF s n now := ⟨_, rfl⟩
  rw [← hM]
  unfold getF at hM
  have hI := hs.1.1
  (simp -dsimp (disch := first | omega | (simp only [LR] <;> omega) | fail) only [push_cast, simprocAttr, -Nat.reduceSubDiff]) <;> (repeat (refine (aw_draw (by kernel_rfl)).2 ?_; simp -dsimp (disch := first | omega | (simp only [LR] <;> omega) | fail) only [push_cast, simprocAttr, -Nat.reduceSubDiff]))
  refine callC (implValidStore s hs) ?_
  cases hv : validSt s with
  | false =>
    rw [hv, Bool.false_and, if_pos rfl] at hM
    subst hM
    (simp -dsimp (disch := first | omega | (simp only [LR] <;> omega) | fail) only [push_cast, simprocAttr, -Nat.reduceSubDiff]) <;> (repeat (refine (aw_draw (by kernel_rfl)).2 ?_; simp -dsimp (disch := first | omega | (simp only [LR] <;> omega) | fail) only [push_cast, simprocAttr, -Nat.reduceSubDiff]))
    rfl
  | true =>
  (simp -dsimp (disch := first | omega | (simp only [LR] <;> omega) | fail) only [push_cast, simprocAttr, -Nat.reduceSubDiff]) <;> (repeat (refine (aw_draw (by kernel_rfl)).2 ?_; simp -dsimp (disch := first | omega | (simp only [LR] <;> omega) | fail) only [push_cast, simprocAttr, -Nat.reduceSubDiff]))
  refine callC (timeOk now) ?_
  cases hn : inB now 0 1000000 with
  | false =>
    rw [hn, Bool.and_false, if_pos rfl] at hM
    subst hM
    (simp -dsimp (disch := first | omega | (simp only [LR] <;> omega) | fail) only [push_cast, simprocAttr, -Nat.reduceSubDiff]) <;> (repeat (refine (aw_draw (by kernel_rfl)).2 ?_; simp -dsimp (disch := first | omega | (simp only [LR] <;> omega) | fail) only [push_cast, simprocAttr, -Nat.reduceSubDiff]))
    rfl
  | true =>
  rw [if_neg (by rw [hv, hn]; simp)] at hM
  (simp -dsimp (disch := first | omega | (simp only [LR] <;> omega) | fail) only [push_cast, simprocAttr, -Nat.reduceSubDiff]) <;> (repeat (refine (aw_draw (by kernel_rfl)).2 ?_; simp -dsimp (disch := first | omega | (simp only [LR] <;> omega) | fail) only [push_cast, simprocAttr, -Nat.reduceSubDiff]))
  refine callC (find s n hs) ?_
  by_cases hat : atI s.w n s.I < 0
  · rw [if_pos hat] at hM
    subst hM
    (simp -dsimp (disch := first | omega | (simp only [hat, LR] <;> omega) | fail) only [push_cast, hat, simprocAttr, -Nat.reduceSubDiff]) <;> (repeat (refine (aw_draw (by kernel_rfl)).2 ?_; simp -dsimp (disch := first | omega | (simp only [hat, LR] <;> omega) | fail) only [push_cast, hat, simprocAttr, -Nat.reduceSubDiff]))
    rfl
  rw [if_neg hat] at hM
  obtain ⟨i, x, h1, h2, _⟩ := at_get (w := s.w) (n := n) (I := s.I) (by omega)
  have hil := (List.getElem?_eq_some_iff.1 h2).1
  rw [textAt_some h1 h2, h1, Int.toNat_natCast] at hM
  subst hM
  rw [h1]
  have hg : (s.I.set i ⟨x.t, now⟩)[i]? = some ⟨x.t, now⟩ := List.getElem?_set_self hil
  (simp -dsimp (disch := first | omega | (simp only [h2, LR] <;> omega) | fail) only [push_cast, h2, simprocAttr, -Nat.reduceSubDiff]) <;> (repeat (refine (aw_draw (by kernel_rfl)).2 ?_; simp -dsimp (disch := first | omega | (simp only [h2, LR] <;> omega) | fail) only [push_cast, h2, simprocAttr, -Nat.reduceSubDiff]))
  refine callC (copyStore s hs) ?_
  (simp -dsimp (disch := first | omega | (simp only [h2, set_item, hg, LR] <;> omega) | fail) only [push_cast, h2, set_item, hg, simprocAttr, -Nat.reduceSubDiff]) <;> (repeat (refine (aw_draw (by kernel_rfl)).2 ?_; simp -dsimp (disch := first | omega | (simp only [h2, set_item, hg, LR] <;> omega) | fail) only [push_cast, h2, set_item, hg, simprocAttr, -Nat.reduceSubDiff]))
def E24 : Env := { T := T0, kp := look [(0, [0, 1, 2]), (1, [1, 2, 3, 7]), (2, [7]), (3, [1, 2, 3, 7]), (4, [2, 3, 7, 9]), (5, [7]), (6, [2, 3, 7, 9]), (7, [2, 7, 9, 10]), (8, [7, 9, 10])], dp := look2 [(8, [[], [0], [], [0, 1, 2], [0, 1, 2, 3], [0, 1, 2, 3, 4], [], [0, 1, 2, 3, 4, 5], [0, 1, 2, 3, 4, 5, 6, 7], [0, 1, 2, 3, 4, 5, 6, 7, 8]])] }
attribute [local push_cast] E24
set_option maxRecDepth 20000 in
set_option maxHeartbeats 1000000 in
theorem specGet (s : Store) (n : Str) (now : Int) (hs : okStore s) : Does Tryz.prog 24 [.ag (storeC false s), .sc (.string n), .sc (.int .i64 now)] (.tu [.sc (.string (getF s n now).1.1), .ag (storeC true (getF s n now).1.2), .sc (.bool (getF s n now).2)], []) := by
  refine does_of (E := E24) (rs := [.tmp 6, .cell 7 26, .tmp 8]) (lent := []) tOk rfl Tryz.func24 rfl (by decide) rfl rfl (Nat.le_of_ble_eq_true rfl) (Nat.le_of_ble_eq_true rfl) ?_
  obtain ⟨M, hM⟩ : ∃ M, M = getF s n now := ⟨_, rfl⟩
  rw [← hM]
  unfold getF at hM
  have hI := hs.1.1
  (simp -dsimp (disch := first | omega | (simp only [LR] <;> omega) | fail) only [push_cast, simprocAttr, -Nat.reduceSubDiff]) <;> (repeat (refine (aw_draw (by kernel_rfl)).2 ?_; simp -dsimp (disch := first | omega | (simp only [LR] <;> omega) | fail) only [push_cast, simprocAttr, -Nat.reduceSubDiff]))
  refine callC (specValidStore s hs) ?_
  cases hv : validSt s with
  | false =>
    rw [hv, Bool.false_and, if_pos rfl] at hM
    subst hM
    (simp -dsimp (disch := first | omega | (simp only [LR] <;> omega) | fail) only [push_cast, simprocAttr, -Nat.reduceSubDiff]) <;> (repeat (refine (aw_draw (by kernel_rfl)).2 ?_; simp -dsimp (disch := first | omega | (simp only [LR] <;> omega) | fail) only [push_cast, simprocAttr, -Nat.reduceSubDiff]))
    rfl
  | true =>
  (simp -dsimp (disch := first | omega | (simp only [LR] <;> omega) | fail) only [push_cast, simprocAttr, -Nat.reduceSubDiff]) <;> (repeat (refine (aw_draw (by kernel_rfl)).2 ?_; simp -dsimp (disch := first | omega | (simp only [LR] <;> omega) | fail) only [push_cast, simprocAttr, -Nat.reduceSubDiff]))
  refine callC (l1In ..) ?_
  cases hn : inB now 0 1000000 with
  | false =>
    rw [hn, Bool.and_false, if_pos rfl] at hM
    subst hM
    (simp -dsimp (disch := first | omega | (simp only [LR] <;> omega) | fail) only [push_cast, simprocAttr, -Nat.reduceSubDiff]) <;> (repeat (refine (aw_draw (by kernel_rfl)).2 ?_; simp -dsimp (disch := first | omega | (simp only [LR] <;> omega) | fail) only [push_cast, simprocAttr, -Nat.reduceSubDiff]))
    rfl
  | true =>
  rw [if_neg (by rw [hv, hn]; simp)] at hM
  (simp -dsimp (disch := first | omega | (simp only [LR] <;> omega) | fail) only [push_cast, simprocAttr, -Nat.reduceSubDiff]) <;> (repeat (refine (aw_draw (by kernel_rfl)).2 ?_; simp -dsimp (disch := first | omega | (simp only [LR] <;> omega) | fail) only [push_cast, simprocAttr, -Nat.reduceSubDiff]))
  refine callC (l4At s n hs) ?_
  by_cases hat : atI s.w n s.I < 0
  · rw [if_pos hat] at hM
    subst hM
    (simp -dsimp (disch := first | omega | (simp only [hat, LR] <;> omega) | fail) only [push_cast, hat, simprocAttr, -Nat.reduceSubDiff]) <;> (repeat (refine (aw_draw (by kernel_rfl)).2 ?_; simp -dsimp (disch := first | omega | (simp only [hat, LR] <;> omega) | fail) only [push_cast, hat, simprocAttr, -Nat.reduceSubDiff]))
    rfl
  rw [if_neg hat] at hM
  obtain ⟨i, x, h1, h2, _⟩ := at_get (w := s.w) (n := n) (I := s.I) (by omega)
  have hil := (List.getElem?_eq_some_iff.1 h2).1
  rw [textAt_some h1 h2, h1, Int.toNat_natCast] at hM
  subst hM
  rw [h1]
  have hg : (s.I.set i ⟨x.t, now⟩)[i]? = some ⟨x.t, now⟩ := List.getElem?_set_self hil
  (simp -dsimp (disch := first | omega | (simp only [h2, LR] <;> omega) | fail) only [push_cast, h2, simprocAttr, -Nat.reduceSubDiff]) <;> (repeat (refine (aw_draw (by kernel_rfl)).2 ?_; simp -dsimp (disch := first | omega | (simp only [h2, LR] <;> omega) | fail) only [push_cast, h2, simprocAttr, -Nat.reduceSubDiff]))
  refine callC (l4Copy s hs) ?_
  (simp -dsimp (disch := first | omega | (simp only [h2, set_item, hg, LR] <;> omega) | fail) only [push_cast, h2, set_item, hg, simprocAttr, -Nat.reduceSubDiff]) <;> (repeat (refine (aw_draw (by kernel_rfl)).2 ?_; simp -dsimp (disch := first | omega | (simp only [h2, set_item, hg, LR] <;> omega) | fail) only [push_cast, h2, set_item, hg, simprocAttr, -Nat.reduceSubDiff]))
def E17 : Env := { T := T0, kp := look [(0, [0, 1]), (1, [1, 2, 4]), (2, [4]), (3, [1, 2, 4]), (4, [1, 4, 6]), (5, [4, 6, 7, 8]), (6, [4]), (7, [4, 6, 7]), (8, [4, 6])], dp := look2 [(7, [[], [0], [], [0, 1, 2], [], [4], [], [6], [4, 5, 6, 7], [0, 1, 2, 3, 4, 5, 6, 7, 8], [0, 1, 2, 3, 4, 5, 6, 7, 8, 9], [0, 1, 2, 3, 4, 5, 6, 7, 8, 9, 10]])] }
attribute [local push_cast] E17
set_option maxRecDepth 20000 in
set_option maxHeartbeats 1000000 in
theorem implUnpin (s : Store) (n : Str) (hs : okStore s) : Does Tryz.prog 17 [.ag (storeC false s), .sc (.string n)] (.tu [.ag (storeC true (unpinS s n).1), .sc (.int .i64 (unpinS s n).2)], []) := by
  refine does_of (E := E17) (rs := [.cell 4 26, .tmp 5]) (lent := []) tOk rfl Tryz.func17 rfl (by decide) rfl rfl (Nat.le_of_ble_eq_true rfl) (Nat.le_of_ble_eq_true rfl) ?_
  have hp := hs.2.1
  obtain ⟨M, hM⟩ : ∃ M, M = unpinS s n := ⟨_, rfl⟩
  rw [← hM]
  unfold unpinS at hM
  (simp -dsimp (disch := first | omega | (simp only [LR] <;> omega) | fail) only [push_cast, simprocAttr, -Nat.reduceSubDiff]) <;> (repeat (refine (aw_draw (by kernel_rfl)).2 ?_; simp -dsimp (disch := first | omega | (simp only [LR] <;> omega) | fail) only [push_cast, simprocAttr, -Nat.reduceSubDiff]))
  refine callC (implValidStore s hs) ?_
  cases hv : validSt s with
  | false =>
    rw [hv, Bool.false_and, if_pos rfl] at hM
    subst hM
    (simp -dsimp (disch := first | omega | (simp only [LR] <;> omega) | fail) only [push_cast, simprocAttr, -Nat.reduceSubDiff]) <;> (repeat (refine (aw_draw (by kernel_rfl)).2 ?_; simp -dsimp (disch := first | omega | (simp only [LR] <;> omega) | fail) only [push_cast, simprocAttr, -Nat.reduceSubDiff]))
    rfl
  | true =>
  by_cases hw : (n.size : Int) = s.w
  rotate_left
  · rw [if_pos (by simp [hw])] at hM
    subst hM
    (simp -dsimp (disch := first | omega | (simp only [hw, LR] <;> omega) | fail) only [push_cast, hw, simprocAttr, -Nat.reduceSubDiff]) <;> (repeat (refine (aw_draw (by kernel_rfl)).2 ?_; simp -dsimp (disch := first | omega | (simp only [hw, LR] <;> omega) | fail) only [push_cast, hw, simprocAttr, -Nat.reduceSubDiff]))
    rfl
  rw [if_neg (by simp [hv, hw])] at hM
  obtain ⟨has, hp10⟩ := validSt_asc hv
  have hpar := asc_parts has n
  have hin := hasS_inL has n
  (simp -dsimp (disch := first | omega | (simp only [hw, LR] <;> omega) | fail) only [push_cast, hw, simprocAttr, -Nat.reduceSubDiff]) <;> (repeat (refine (aw_draw (by kernel_rfl)).2 ?_; simp -dsimp (disch := first | omega | (simp only [hw, LR] <;> omega) | fail) only [push_cast, hw, simprocAttr, -Nat.reduceSubDiff]))
  refine callC (copyStore s hs) ?_
  (simp -dsimp (disch := first | omega | (simp only [LR] <;> omega) | fail) only [push_cast, simprocAttr, -Nat.reduceSubDiff]) <;> (repeat (refine (aw_draw (by kernel_rfl)).2 ?_; simp -dsimp (disch := first | omega | (simp only [LR] <;> omega) | fail) only [push_cast, simprocAttr, -Nat.reduceSubDiff]))
  refine callC (pinned s n hs hpar) ?_
  cases hh : hasS s.P n with
  | false =>
    rw [hh] at hin
    have hno : n ∉ s.P := fun q => by rw [(inL_iff ..).2 q] at hin; cases hin
    rw [woS_no hno, if_pos rfl] at hM
    subst hM
    (simp -dsimp (disch := first | omega | (simp only [LR] <;> omega) | fail) only [push_cast, simprocAttr, -Nat.reduceSubDiff]) <;> (repeat (refine (aw_draw (by kernel_rfl)).2 ?_; simp -dsimp (disch := first | omega | (simp only [LR] <;> omega) | fail) only [push_cast, simprocAttr, -Nat.reduceSubDiff]))
    rfl
  | true =>
  have hget : s.P[rk s.P n]? = some n := by
    unfold hasS at hh
    exact of_decide_eq_true hh
  obtain ⟨i, hi⟩ : ∃ i, i = rk s.P n := ⟨_, rfl⟩
  rw [← hi] at hget ⊢
  have hil := (List.getElem?_eq_some_iff.1 hget).1
  have hrl := rmAt_len (l := s.P) (i := i) hil
  rw [woS_rm ((valid_iff s).1 hv).2.2.2.2.2.1 hget, if_neg (by omega)] at hM
  subst hM
  have e1 : ((i : Int) + 1).toNat = i + 1 := by omega
  have e2 : i + (s.P.drop (i + 1)).length = (rmAt s.P i).length := by rw [List.length_drop]; omega
  have e4 : (s.P.take i).map strR ++ (s.P.drop (i + 1)).map strR = (rmAt s.P i).map strR := by unfold rmAt; rw [List.map_append]
  (simp -dsimp (disch := first | omega | (simp only [e1, seg_tk, seg_dr, wr_id, e2, e4, LR] <;> omega) | fail) only [push_cast, e1, seg_tk, seg_dr, wr_id, e2, e4, simprocAttr, -Nat.reduceSubDiff]) <;> (repeat (refine (aw_draw (by kernel_rfl)).2 ?_; simp -dsimp (disch := first | omega | (simp only [e1, seg_tk, seg_dr, wr_id, e2, e4, LR] <;> omega) | fail) only [push_cast, e1, seg_tk, seg_dr, wr_id, e2, e4, simprocAttr, -Nat.reduceSubDiff]))
end Go.Proofs.YtkkmgjhfjhcdmaaGreatDoor.Mx

/- Things «to» describe, «to» read, «to» build: drawn. -/
namespace Go.Proofs.YtkkmgjhfjhcdmaaGreatDoor.Mx
set_option linter.all false
open Go Go.RowKit Go.Proofs
set_option linter.unusedSimpArgs false
theorem take_code {c : List Int} (hc : c.length ≤ 1048576) (hb : ∀ x ∈ c, 0 ≤ x ∧ x ≤ 255) : okCode (c.take 2000) := ⟨by rw [List.length_take]; omega, fun x hx => hb x (List.mem_of_mem_take hx)⟩
end Go.Proofs.YtkkmgjhfjhcdmaaGreatDoor.Mx

/- Drawn stores: any; a thing «to» save. -/
namespace Go.Proofs.YtkkmgjhfjhcdmaaGreatDoor.Mx
set_option linter.all false
open Go Go.RowKit Go.Proofs
set_option linter.unusedSimpArgs false
def E51 : Env := { T := T0, kp := look [(0, [0]), (1, [0, 2]), (2, [0, 2, 3]), (3, [0, 2, 3]), (4, [0, 2, 3])], md := look3 [(1, 1, [1, 0, 0]), (2, 1, [1, 0]), (3, 2, [1, 2])] }
attribute [local push_cast] E51
set_option maxRecDepth 20000 in
set_option maxHeartbeats 1000000 in
theorem l4Any (c : List Int) (p : Int) (hc : okCode c) (hp : 0 ≤ p) (hp2 : p ≤ 8000) : ∃ r, spR c p 120 r ∧ Does Tryz.prog 51 [.pb true (rdC1 c p)] r := by
  refine does_ex (E := E51) (rs := [.cell 2 26]) (lent := [true]) tOk rfl Tryz.func51 rfl (by decide) rfl rfl (Nat.le_of_ble_eq_true rfl) (Nat.le_of_ble_eq_true rfl) ?_
  (simp -dsimp (disch := first | omega | (simp only [LR] <;> omega) | fail) only [push_cast, simprocAttr, -Nat.reduceSubDiff]) <;> (repeat (refine ex_draw (by kernel_rfl) ?_; simp -dsimp (disch := first | omega | (simp only [LR] <;> omega) | fail) only [push_cast, simprocAttr, -Nat.reduceSubDiff]))
  refine ex_some (l4Draw c p hc hp (by omega)) ?_
  rintro _ ⟨s, i, rfl, hs, hi1, hi2⟩
  obtain ⟨k, hk, hd⟩ := pick_nat c i 14 hc (by omega) (by omega) (by omega) (by omega)
  (simp -dsimp (disch := first | omega | (simp only [LR] <;> omega) | fail) only [push_cast, simprocAttr, -Nat.reduceSubDiff]) <;> (repeat (refine ex_draw (by kernel_rfl) ?_; simp -dsimp (disch := first | omega | (simp only [LR] <;> omega) | fail) only [push_cast, simprocAttr, -Nat.reduceSubDiff]))
  refine ex_call hd ?_
  clear hd
  by_cases h0 : k = 0
  · subst h0
    (simp -dsimp (disch := first | omega | (simp only [LR] <;> omega) | fail) only [push_cast, simprocAttr, -Nat.reduceSubDiff]) <;> (repeat (refine ex_draw (by kernel_rfl) ?_; simp -dsimp (disch := first | omega | (simp only [LR] <;> omega) | fail) only [push_cast, simprocAttr, -Nat.reduceSubDiff]))
    refine ex_some (l4Spoil c (i + 1) s hc (by omega) (by omega) hs) ?_
    rintro _ ⟨u, j, rfl, hu, hj1, hj2⟩
    (simp -dsimp (disch := first | omega | (simp only [LR] <;> omega) | fail) only [push_cast, simprocAttr, -Nat.reduceSubDiff]) <;> (repeat (refine ex_draw (by kernel_rfl) ?_; simp -dsimp (disch := first | omega | (simp only [LR] <;> omega) | fail) only [push_cast, simprocAttr, -Nat.reduceSubDiff]))
    exact ⟨_, ⟨u, j, rfl, hu, by omega, by omega⟩, rfl⟩
  · (simp -dsimp (disch := first | omega | (simp only [h0, LR] <;> omega) | fail) only [push_cast, h0, simprocAttr, -Nat.reduceSubDiff]) <;> (repeat (refine ex_draw (by kernel_rfl) ?_; simp -dsimp (disch := first | omega | (simp only [h0, LR] <;> omega) | fail) only [push_cast, h0, simprocAttr, -Nat.reduceSubDiff]))
    exact ⟨_, ⟨s, i + 1, rfl, hs.1, by omega, by omega⟩, rfl⟩
def svR (r : Ans) : Prop := ∃ (s : Store) (t : Str) (n : Int), r = (.tu [.ag (storeC true s), .sc (.string t), .sc (.int .i64 n)], []) ∧ okStore s ∧ t.size ≤ 10000
def E12 : Env := { T := T0, kp := look [(0, [0]), (1, [0, 2]), (2, [2, 5]), (3, [2, 5, 6]), (4, [2, 5, 6, 7]), (5, [2, 5, 6]), (6, [2, 5, 6, 7])], dp := look2 [(6, [[], [], [], [2], [0, 2, 3], [0, 1, 2, 3, 4], [0, 1, 2, 3, 4, 5]])], md := look3 [(2, 1, [1, 0, 0]), (3, 1, [1]), (4, 1, [1, 0]), (6, 3, [1, 0, 0])] }
attribute [local push_cast] E12
set_option maxRecDepth 20000 in
set_option maxHeartbeats 1000000 in
theorem drawSave (c : List Int) (hc : c.length ≤ 1048576) (hb : ∀ x ∈ c, 0 ≤ x ∧ x ≤ 255) : ∃ r, svR r ∧ Does Tryz.prog 12 [.sl false 1 (c.map numR)] r := by
  refine does_ex (E := E12) (rs := [.cell 2 26, .tmp 3, .tmp 4]) (lent := []) tOk rfl Tryz.func12 rfl (by decide) rfl rfl (Nat.le_of_ble_eq_true rfl) (Nat.le_of_ble_eq_true rfl) ?_
  (simp -dsimp (disch := first | omega | (simp only [LR] <;> omega) | fail) only [push_cast, simprocAttr, -Nat.reduceSubDiff]) <;> (repeat (refine ex_draw (by kernel_rfl) ?_; simp -dsimp (disch := first | omega | (simp only [LR] <;> omega) | fail) only [push_cast, simprocAttr, -Nat.reduceSubDiff]))
  refine ex_call (l1Open c hc) ?_
  have hk := take_code hc hb
  generalize c.take 2000 = e at *
  (simp -dsimp (disch := first | omega | (simp only [LR] <;> omega) | fail) only [push_cast, simprocAttr, -Nat.reduceSubDiff]) <;> (repeat (refine ex_draw (by kernel_rfl) ?_; simp -dsimp (disch := first | omega | (simp only [LR] <;> omega) | fail) only [push_cast, simprocAttr, -Nat.reduceSubDiff]))
  refine ex_some (l4Any e 0 hk (by omega) (by omega)) ?_
  rintro _ ⟨s, i, rfl, hs, hi1, hi2⟩
  (simp -dsimp (disch := first | omega | (simp only [LR] <;> omega) | fail) only [push_cast, simprocAttr, -Nat.reduceSubDiff]) <;> (repeat (refine ex_draw (by kernel_rfl) ?_; simp -dsimp (disch := first | omega | (simp only [LR] <;> omega) | fail) only [push_cast, simprocAttr, -Nat.reduceSubDiff]))
  refine ex_some (l2Thing e i hk (by omega) (by omega)) ?_
  rintro _ ⟨t, j, rfl, ht, hj1, hj2⟩
  obtain ⟨k, hk0, hd⟩ := pick_nat e j 16 hk (by omega) (by omega) (by omega) (by omega)
  (simp -dsimp (disch := first | omega | (simp only [LR] <;> omega) | fail) only [push_cast, simprocAttr, -Nat.reduceSubDiff]) <;> (repeat (refine ex_draw (by kernel_rfl) ?_; simp -dsimp (disch := first | omega | (simp only [LR] <;> omega) | fail) only [push_cast, simprocAttr, -Nat.reduceSubDiff]))
  refine ex_call hd ?_
  clear hd
  by_cases h0 : k = 0
  · subst h0
    (simp -dsimp (disch := first | omega | (simp only [LR] <;> omega) | fail) only [push_cast, simprocAttr, -Nat.reduceSubDiff]) <;> (repeat (refine ex_draw (by kernel_rfl) ?_; simp -dsimp (disch := first | omega | (simp only [LR] <;> omega) | fail) only [push_cast, simprocAttr, -Nat.reduceSubDiff]))
    refine ex_some (l1Many ⟨#[109]⟩ 3001 3001 (by omega) (by rw [sz1]; omega) (by omega) (by rw [sz1]; omega)) ?_
    rintro _ ⟨u, rfl, hu⟩
    (simp -dsimp (disch := first | omega | (simp only [LR] <;> omega) | fail) only [push_cast, simprocAttr, -Nat.reduceSubDiff]) <;> (repeat (refine ex_draw (by kernel_rfl) ?_; simp -dsimp (disch := first | omega | (simp only [LR] <;> omega) | fail) only [push_cast, simprocAttr, -Nat.reduceSubDiff]))
    refine ex_some (l4Now e (j + 1) hk (by omega) (by omega)) ?_
    rintro _ ⟨n, m, rfl, _, _, _, _⟩
    (simp -dsimp (disch := first | omega | (simp only [LR] <;> omega) | fail) only [push_cast, simprocAttr, -Nat.reduceSubDiff]) <;> (repeat (refine ex_draw (by kernel_rfl) ?_; simp -dsimp (disch := first | omega | (simp only [LR] <;> omega) | fail) only [push_cast, simprocAttr, -Nat.reduceSubDiff]))
    exact ⟨_, ⟨s, u, n, rfl, hs, by omega⟩, rfl⟩
  · (simp -dsimp (disch := first | omega | (simp only [h0, LR] <;> omega) | fail) only [push_cast, h0, simprocAttr, -Nat.reduceSubDiff]) <;> (repeat (refine ex_draw (by kernel_rfl) ?_; simp -dsimp (disch := first | omega | (simp only [h0, LR] <;> omega) | fail) only [push_cast, h0, simprocAttr, -Nat.reduceSubDiff]))
    refine ex_some (l4Now e (j + 1) hk (by omega) (by omega)) ?_
    rintro _ ⟨n, m, rfl, _, _, _, _⟩
    (simp -dsimp (disch := first | omega | (simp only [LR] <;> omega) | fail) only [push_cast, simprocAttr, -Nat.reduceSubDiff]) <;> (repeat (refine ex_draw (by kernel_rfl) ?_; simp -dsimp (disch := first | omega | (simp only [LR] <;> omega) | fail) only [push_cast, simprocAttr, -Nat.reduceSubDiff]))
    exact ⟨_, ⟨s, t, n, rfl, hs, by omega⟩, rfl⟩
def E8 : Env := { T := T0, kp := look [(0, [0]), (1, [0, 2])], md := look3 [(1, 2, [1, 0, 0])] }
attribute [local push_cast] E8
theorem drawNeeded (c : List Int) (hc : c.length ≤ 1048576) (hb : ∀ x ∈ c, 0 ≤ x ∧ x ≤ 255) : ∃ r, (∃ s : Store, r = (.ag (storeC true s), []) ∧ okStore s) ∧ Does Tryz.prog 8 [.sl false 1 (c.map numR)] r := by
  refine does_ex (E := E8) (rs := [.cell 2 26]) (lent := []) tOk rfl Tryz.func8 rfl (by decide) rfl rfl (Nat.le_of_ble_eq_true rfl) (Nat.le_of_ble_eq_true rfl) ?_
  (simp -dsimp (disch := first | omega | (simp only [LR] <;> omega) | fail) only [push_cast, simprocAttr, -Nat.reduceSubDiff]) <;> (repeat (refine ex_draw (by kernel_rfl) ?_; simp -dsimp (disch := first | omega | (simp only [LR] <;> omega) | fail) only [push_cast, simprocAttr, -Nat.reduceSubDiff]))
  refine ex_call (l1Open c hc) ?_
  have hk := take_code hc hb
  generalize c.take 2000 = e at *
  (simp -dsimp (disch := first | omega | (simp only [LR] <;> omega) | fail) only [push_cast, simprocAttr, -Nat.reduceSubDiff]) <;> (repeat (refine ex_draw (by kernel_rfl) ?_; simp -dsimp (disch := first | omega | (simp only [LR] <;> omega) | fail) only [push_cast, simprocAttr, -Nat.reduceSubDiff]))
  refine ex_some (l4Any e 0 hk (by omega) (by omega)) ?_
  rintro _ ⟨s, i, rfl, hs, hi1, hi2⟩
  (simp -dsimp (disch := first | omega | (simp only [LR] <;> omega) | fail) only [push_cast, simprocAttr, -Nat.reduceSubDiff]) <;> (repeat (refine ex_draw (by kernel_rfl) ?_; simp -dsimp (disch := first | omega | (simp only [LR] <;> omega) | fail) only [push_cast, simprocAttr, -Nat.reduceSubDiff]))
  exact ⟨_, ⟨s, rfl, hs⟩, rfl⟩
end Go.Proofs.YtkkmgjhfjhcdmaaGreatDoor.Mx

/- Helpers of the drawn laws: lists of texts held against each other. -/
namespace Go.Proofs.YtkkmgjhfjhcdmaaGreatDoor.Mx
set_option linter.all false
open Go Go.RowKit Go.Proofs
set_option linter.unusedSimpArgs false
def E28 : Env := { T := T0, kp := look [(0, [0, 1]), (1, [0, 1]), (2, [0, 1, 5]), (3, [0, 1, 5]), (4, [0, 1, 5]), (5, []), (6, [])] }
attribute [local push_cast] E28
theorem wIn (l : List Str) (s : Str) (hl : l.length ≤ 2097152) : Does Tryz.prog 28 [.sl false 1 (l.map strR), .sc (.string s)] (.sc (.bool (inL l s)), []) := by
  refine does_of (E := E28) (rs := [.tmp 4]) (lent := []) tOk rfl Tryz.func28 rfl (by decide) rfl rfl (Nat.le_of_ble_eq_true rfl) (Nat.le_of_ble_eq_true rfl) ?_
  generalize hM : inL l s = M
  simp -dsimp (disch := first | omega | (simp only [LR] <;> omega) | fail) only [push_cast, simprocAttr, -Nat.reduceSubDiff]
  refine loop_ind (α := Nat) (fun i => i ≤ l.length ∧ inL (l.drop i) s = M) (fun i => ⟨[(0, .sl false 1 (l.map strR)), (1, .sc (.string s)), (5, .sc (.int .i64 i))], [], 1⟩) (fun i => l.length - i) 0 ⟨Nat.zero_le _, hM⟩ ?_ ?_
  · simp -dsimp (disch := first | omega | (simp only [LR] <;> omega) | fail) only [push_cast, simprocAttr, -Nat.reduceSubDiff]
  rintro i ⟨hi, hy⟩ ih
  by_cases h : i < l.length
  · obtain ⟨x, hx⟩ := ex_get h
    rw [drop_step hx] at hy
    by_cases e : x = s
    · have hy : true = M := by rw [← hy]; simp [inL, e]
      simp -dsimp (disch := first | omega | (simp only [hx, e, ← hy, LR] <;> omega) | fail) only [push_cast, hx, e, ← hy, simprocAttr, -Nat.reduceSubDiff]
    · simp -dsimp (disch := first | omega | (simp only [hx, e, LR] <;> omega) | fail) only [push_cast, hx, e, simprocAttr, -Nat.reduceSubDiff]
      refine ih (i + 1) _ (by omega) ⟨h, by rw [← hy]; simp [inL, e]⟩ ?_
      simp -dsimp (disch := first | omega | (simp only [wr_id, LR] <;> omega) | fail) only [push_cast, wr_id, simprocAttr, -Nat.reduceSubDiff]
  · rw [List.drop_eq_nil_of_le (by omega)] at hy
    have hy : false = M := by rw [← hy]; rfl
    simp -dsimp (disch := first | omega | (simp only [← hy, LR] <;> omega) | fail) only [push_cast, ← hy, simprocAttr, -Nat.reduceSubDiff]
def E29 : Env := { T := T0, kp := look [(0, [0, 1]), (1, [0, 1]), (2, []), (3, [0, 1]), (4, [0, 1, 5]), (5, [0, 1, 5]), (6, [0, 1, 5]), (7, []), (8, [])], dp := look2 [(6, [[], [], [0, 1], [0, 1, 2], [], [], [4, 5], [4, 5, 6], [0, 1, 2, 3, 4, 5, 6, 7]])] }
attribute [local push_cast] E29
theorem wTexts (l : List Str) (hl : l.length ≤ 2097152) : Does Tryz.prog 29 [.sl false 1 (l.map strR), .sl false 1 (l.map strR)] (.sc (.bool true), []) := by
  refine does_of (E := E29) (rs := [.tmp 4]) (lent := []) tOk rfl Tryz.func29 rfl (by decide) rfl rfl (Nat.le_of_ble_eq_true rfl) (Nat.le_of_ble_eq_true rfl) ?_
  (simp -dsimp (disch := first | omega | (simp only [LR] <;> omega) | fail) only [push_cast, simprocAttr, -Nat.reduceSubDiff]) <;> (repeat (refine (aw_draw (by kernel_rfl)).2 ?_; simp -dsimp (disch := first | omega | (simp only [LR] <;> omega) | fail) only [push_cast, simprocAttr, -Nat.reduceSubDiff]))
  refine loop_ind (α := Nat) (fun i => i ≤ l.length) (fun i => ⟨[(0, .sl false 1 (l.map strR)), (1, .sl false 1 (l.map strR)), (5, .sc (.int .i64 i))], [], 1⟩) (fun i => l.length - i) 0 (Nat.zero_le _) ?_ ?_
  · simp -dsimp (disch := first | omega | (simp only [LR] <;> omega) | fail) only [push_cast, simprocAttr, -Nat.reduceSubDiff]
  intro i hi ih
  by_cases h : i < l.length
  · obtain ⟨x, hx⟩ := ex_get h
    (simp -dsimp (disch := first | omega | (simp only [hx, LR] <;> omega) | fail) only [push_cast, hx, simprocAttr, -Nat.reduceSubDiff]) <;> (repeat (refine (aw_draw (by kernel_rfl)).2 ?_; simp -dsimp (disch := first | omega | (simp only [hx, LR] <;> omega) | fail) only [push_cast, hx, simprocAttr, -Nat.reduceSubDiff]))
    refine ih (i + 1) _ (by omega) h ?_
    simp -dsimp (disch := first | omega | (simp only [wr_id, LR] <;> omega) | fail) only [push_cast, wr_id, simprocAttr, -Nat.reduceSubDiff]
  · (simp -dsimp (disch := first | omega | (simp only [LR] <;> omega) | fail) only [push_cast, simprocAttr, -Nat.reduceSubDiff]) <;> (repeat (refine (aw_draw (by kernel_rfl)).2 ?_; simp -dsimp (disch := first | omega | (simp only [LR] <;> omega) | fail) only [push_cast, simprocAttr, -Nat.reduceSubDiff]))
end Go.Proofs.YtkkmgjhfjhcdmaaGreatDoor.Mx

/- Stores held against each other: the laws' own. -/
namespace Go.Proofs.YtkkmgjhfjhcdmaaGreatDoor.Mx
set_option linter.all false
open Go Go.RowKit Go.Proofs
set_option linter.unusedSimpArgs false
def E26 : Env := { T := T0, kp := look [(0, [0, 1]), (1, [2, 3]), (2, []), (3, [2, 3]), (4, [2, 3, 5]), (5, [2, 3, 5]), (6, [2, 3, 5]), (7, []), (8, [])], dp := look2 [(6, [[], [0], [], [0, 1, 2], [0, 1, 2, 3], [], [5], [], [5, 6, 7], [5, 6, 7, 8], [0, 1, 2, 3, 4, 5, 6, 7, 8, 9]])] }
attribute [local push_cast] E26
set_option maxHeartbeats 1000000 in
theorem wStore (s : Store) (hs : okStore s) : Does Tryz.prog 26 [.ag (storeC false s), .ag (storeC false s)] (.sc (.bool true), []) := by
  refine does_of (E := E26) (rs := [.tmp 4]) (lent := []) tOk rfl Tryz.func26 rfl (by decide) rfl rfl (Nat.le_of_ble_eq_true rfl) (Nat.le_of_ble_eq_true rfl) ?_
  have hl := hs.1.1
  (simp -dsimp (disch := first | omega | (simp only [LR] <;> omega) | fail) only [push_cast, simprocAttr, -Nat.reduceSubDiff]) <;> (repeat (refine (aw_draw (by kernel_rfl)).2 ?_; simp -dsimp (disch := first | omega | (simp only [LR] <;> omega) | fail) only [push_cast, simprocAttr, -Nat.reduceSubDiff]))
  refine callC (wTexts s.P hs.2.1) ?_
  (simp -dsimp (disch := first | omega | (simp only [LR] <;> omega) | fail) only [push_cast, simprocAttr, -Nat.reduceSubDiff]) <;> (repeat (refine (aw_draw (by kernel_rfl)).2 ?_; simp -dsimp (disch := first | omega | (simp only [LR] <;> omega) | fail) only [push_cast, simprocAttr, -Nat.reduceSubDiff]))
  refine loop_ind (α := Nat) (fun i => i ≤ s.I.length) (fun i => ⟨[(2, .pt 1 0 0), (3, .pt 2 0 0), (5, .sc (.int .i64 i))], [(1, .bx (storeC false s)), (2, .bx (storeC false s))], 3⟩) (fun i => s.I.length - i) 0 (Nat.zero_le _) ?_ ?_
  · simp -dsimp (disch := first | omega | (simp only [LR] <;> omega) | fail) only [push_cast, simprocAttr, -Nat.reduceSubDiff]
  intro i hi ih
  by_cases h : i < s.I.length
  · obtain ⟨x, hx⟩ := ex_get h
    (simp -dsimp (disch := first | omega | (simp only [h, hx, eqF, eq1, eqs, LR] <;> omega) | fail) only [push_cast, h, hx, eqF, eq1, eqs, simprocAttr, -Nat.reduceSubDiff]) <;> (repeat (refine (aw_draw (by kernel_rfl)).2 ?_; simp -dsimp (disch := first | omega | (simp only [h, hx, eqF, eq1, eqs, LR] <;> omega) | fail) only [push_cast, h, hx, eqF, eq1, eqs, simprocAttr, -Nat.reduceSubDiff]))
    refine ih (i + 1) _ (by omega) h ?_
    simp -dsimp (disch := first | omega | (simp only [wr_id, LR] <;> omega) | fail) only [push_cast, wr_id, simprocAttr, -Nat.reduceSubDiff]
  · (simp -dsimp (disch := first | omega | (simp only [h, LR] <;> omega) | fail) only [push_cast, h, simprocAttr, -Nat.reduceSubDiff]) <;> (repeat (refine (aw_draw (by kernel_rfl)).2 ?_; simp -dsimp (disch := first | omega | (simp only [h, LR] <;> omega) | fail) only [push_cast, h, simprocAttr, -Nat.reduceSubDiff]))
end Go.Proofs.YtkkmgjhfjhcdmaaGreatDoor.Mx

/- The law FnStores runs. -/
namespace Go.Proofs.YtkkmgjhfjhcdmaaGreatDoor.Mx
set_option linter.all false
open Go Go.RowKit Go.Proofs
set_option linter.unusedSimpArgs false
theorem need_valid {s : Store} (h : validSt s = true) : needF s = needL s := by unfold needF; rw [if_neg (by rw [h]; simp)]; rfl
theorem tmod_nat (a b : Nat) : (a : Int).tmod (b : Int) = ((a % b : Nat) : Int) := (Int.ofNat_tmod a b).symm
theorem unpin_ok {s : Store} {n : Str} (hs : okStore s) : okStore (unpinS s n).1 := by
  unfold unpinS
  split
  · exact emS_ok
  · split
    · exact emS_ok
    · have := woS_len s.P n
      exact ⟨hs.1, ⟨by show (woS s.P n).length ≤ _; have := hs.2.1; omega, fun a ha => hs.2.2 a (woS_of ha)⟩⟩
def E3 : Env := { T := T0, kp := look [(0, [0, 1]), (1, [0, 1]), (2, []), (3, [0, 1]), (4, [1, 5]), (5, [5]), (6, [1, 5]), (7, [1, 5, 6]), (8, [1, 5, 6]), (9, [1, 5, 6]), (10, [1, 5, 6, 8, 9]), (11, [1, 5, 6, 8, 9, 10]), (12, [1, 5, 6, 8, 9, 10, 11]), (13, [1, 5, 6, 8, 9, 10, 11, 12]), (14, [1, 5, 6, 8, 9, 10, 11, 12, 13]), (15, [1, 5, 6, 8, 10, 11, 12, 13]), (16, [1, 5, 6, 8, 10, 11, 12, 13]), (17, [1, 5, 6, 8, 10, 11, 12, 13, 14]), (18, [1, 5, 6, 8, 10, 11, 12, 13, 14, 15, 16, 17]), (19, [1, 5, 6, 8, 10, 11, 12, 13, 14, 15, 16, 17]), (20, []), (21, [1, 5, 6, 8, 10, 11, 12, 13, 16]), (22, [1, 5, 6, 8, 9, 10, 11, 12, 13, 74]), (23, [1, 5, 6, 8, 9, 10, 12]), (24, [1, 5, 6, 8, 9, 10, 11, 12]), (25, [1, 5, 6, 8, 9, 10, 11, 12, 13, 74]), (26, [1, 5, 6, 8, 9, 10, 12]), (27, [1, 5, 6, 8, 9, 10, 11, 12]), (28, [1, 5, 6, 8, 10, 11, 12, 13, 74]), (29, [1, 5, 6, 8, 10, 11, 12, 13]), (30, [1, 5, 6, 8, 10, 12]), (31, [1, 5, 6, 8, 10, 11, 12]), (32, [1, 5, 6, 8, 10, 11, 12, 13, 74]), (33, [1, 5, 6, 8, 10, 12]), (34, [1, 5, 6, 8, 10, 11, 12]), (35, [1, 5, 6, 8, 10, 11, 12, 13]), (36, []), (37, [1, 5, 6, 8, 10, 11]), (38, [1, 5, 6, 8, 10]), (39, [1, 5, 6, 8, 10, 18]), (40, [1, 5, 6, 8, 10, 18, 19]), (41, [1, 5, 6, 8, 10, 18, 19]), (42, [1, 5, 6, 8, 10, 18, 19]), (43, [1, 5, 6, 8, 10, 18, 19, 20]), (44, [1, 5, 6, 8, 10, 18, 19, 20, 23]), (45, []), (46, [1, 5, 6, 8, 10]), (47, [1, 5, 6, 8, 10]), (48, [1, 5, 6, 10, 26]), (49, []), (50, [1, 5, 6, 10]), (51, [5])], dp := look2 [(16, [[], [0], [], [], [3], [3, 4], [2, 3, 4, 5], [0, 1, 2, 3, 4, 5, 6], [0, 1, 2, 3, 4, 5, 6, 7], [0, 1, 2, 3, 4, 5, 6, 7, 8], [], [10], [0, 1, 2, 3, 4, 5, 6, 7, 8, 9, 10, 11], [0, 1, 2, 3, 4, 5, 6, 7, 8, 9, 10, 11, 12]]), (30, [[], [], [1], [], [], [4], [4, 5], [3, 4, 5, 6], [1, 2, 3, 4, 5, 6, 7], [1, 2, 3, 4, 5, 6, 7, 8], [0, 1, 2, 3, 4, 5, 6, 7, 8, 9], [0, 1, 2, 3, 4, 5, 6, 7, 8, 9, 10], [0, 1, 2, 3, 4, 5, 6, 7, 8, 9, 10, 11], [0, 1, 2, 3, 4, 5, 6, 7, 8, 9, 10, 11], [0, 1, 2, 3, 4, 5, 6, 7, 8, 9, 10, 11, 12], [0, 1, 2, 3, 4, 5, 6, 7, 8, 9, 10, 11, 12, 13, 14]]), (31, [[], [], [1], [], [], [4], [4, 5], [3, 4, 5, 6], [1, 2, 3, 4, 5, 6, 7], [1, 2, 3, 4, 5, 6, 7, 8], [0, 1, 2, 3, 4, 5, 6, 7, 8, 9], [0, 1, 2, 3, 4, 5, 6, 7, 8, 9, 10], [0, 1, 2, 3, 4, 5, 6, 7, 8, 9, 10, 11], [0, 1, 2, 3, 4, 5, 6, 7, 8, 9, 10, 11], [0, 1, 2, 3, 4, 5, 6, 7, 8, 9, 10, 11, 12], [0, 1, 2, 3, 4, 5, 6, 7, 8, 9, 10, 11, 12, 13, 14]]), (33, [[], [], [], [2], [1, 2, 3], [0, 1, 2, 3, 4], [0, 1, 2, 3, 4, 5], [0, 1, 2, 3, 4, 5, 6], [0, 1, 2, 3, 4, 5, 6], [0, 1, 2, 3, 4, 5, 6, 7], [0, 1, 2, 3, 4, 5, 6, 7, 8, 9]]), (34, [[], [], [], [2], [1, 2, 3], [0, 1, 2, 3, 4], [0, 1, 2, 3, 4, 5], [0, 1, 2, 3, 4, 5, 6], [0, 1, 2, 3, 4, 5, 6], [0, 1, 2, 3, 4, 5, 6, 7], [0, 1, 2, 3, 4, 5, 6, 7, 8, 9]]), (42, [[], [0], [], [0, 1, 2], [0, 1, 2, 3], [0, 1, 2, 3, 4], [], [6], [0, 1, 2, 3, 4, 5, 6, 7], [0, 1, 2, 3, 4, 5, 6, 7, 8]]), (47, [[], [], [], [2], [1, 2, 3], [0, 1, 2, 3, 4], [0, 1, 2, 3, 4, 5], [0, 1, 2, 3, 4, 5, 6], [0, 1, 2, 3, 4, 5, 6], [0, 1, 2, 3, 4, 5, 6], [], [0, 1, 2, 3, 4, 5, 6, 7, 10], [0, 1, 2, 3, 4, 5, 6, 7, 8, 10, 11], [0, 1, 2, 3, 4, 5, 6, 7, 8, 9, 10, 11, 12]]), (51, [[], [0], [0, 1], [0, 1, 2], [0, 1, 2, 3], [0, 1, 2, 3, 4], [0, 1, 2, 3, 4, 5], [0, 1, 2, 3, 4, 5, 6], [0, 1, 2, 3, 4, 5, 6, 7], [0, 1, 2, 3, 4, 5, 6], [0, 1, 2, 3, 4, 5, 6, 7, 8, 9], [0, 1, 2, 3, 4, 5, 6, 7, 8, 9, 10], [0, 1, 2, 3, 4, 5, 6, 7, 8, 9, 10, 11], [0, 1, 2, 3, 4, 5, 6, 7, 8, 9, 10, 11, 12]])] }
attribute [local push_cast] E3
set_option maxRecDepth 20000 in
set_option maxHeartbeats 16000000 in
theorem fnStores (c m : List Int) (hcl : c.length ≤ 9223372036854775807) (hc : ∀ x ∈ c, 0 ≤ x ∧ x ≤ 255) (hml : m.length ≤ 9223372036854775807) (hm : ∀ x ∈ m, 0 ≤ x ∧ x ≤ 255) : Does Tryz.prog 3 [.sl false 1 (c.map numR), .sl false 1 (m.map numR)] (.sc (.bool true), []) := by
  refine does_of (E := E3) (rs := [.tmp 4]) (lent := []) tOk rfl Tryz.func3 rfl (by decide) rfl rfl (Nat.le_of_ble_eq_true rfl) (Nat.le_of_ble_eq_true rfl) ?_
  by_cases hb1 : 1048576 < c.length
  · (simp -dsimp (disch := first | omega | (simp only [hb1, LR] <;> omega) | fail) only [push_cast, hb1, simprocAttr, -Nat.reduceSubDiff]) <;> (repeat (refine (aw_draw (by kernel_rfl)).2 ?_; simp -dsimp (disch := first | omega | (simp only [hb1, LR] <;> omega) | fail) only [push_cast, hb1, simprocAttr, -Nat.reduceSubDiff]))
  by_cases hb2 : 1048576 < m.length
  · (simp -dsimp (disch := first | omega | (simp only [hb1, hb2, LR] <;> omega) | fail) only [push_cast, hb1, hb2, simprocAttr, -Nat.reduceSubDiff]) <;> (repeat (refine (aw_draw (by kernel_rfl)).2 ?_; simp -dsimp (disch := first | omega | (simp only [hb1, hb2, LR] <;> omega) | fail) only [push_cast, hb1, hb2, simprocAttr, -Nat.reduceSubDiff]))
  (simp -dsimp (disch := first | omega | (simp only [hb1, hb2, LR] <;> omega) | fail) only [push_cast, hb1, hb2, simprocAttr, -Nat.reduceSubDiff]) <;> (repeat (refine (aw_draw (by kernel_rfl)).2 ?_; simp -dsimp (disch := first | omega | (simp only [hb1, hb2, LR] <;> omega) | fail) only [push_cast, hb1, hb2, simprocAttr, -Nat.reduceSubDiff]))
  refine some_call (drawNeeded c (by omega) hc) ?_
  rintro _ ⟨s0, rfl, hs0⟩
  (simp -dsimp (disch := first | omega | (simp only [LR] <;> omega) | fail) only [push_cast, simprocAttr, -Nat.reduceSubDiff]) <;> (repeat (refine (aw_draw (by kernel_rfl)).2 ?_; simp -dsimp (disch := first | omega | (simp only [LR] <;> omega) | fail) only [push_cast, simprocAttr, -Nat.reduceSubDiff]))
  refine callC (specValidStore s0 hs0) ?_
  cases hv0 : validSt s0 with
  | false =>
    (simp -dsimp (disch := first | omega | (simp only [LR] <;> omega) | fail) only [push_cast, simprocAttr, -Nat.reduceSubDiff]) <;> (repeat (refine (aw_draw (by kernel_rfl)).2 ?_; simp -dsimp (disch := first | omega | (simp only [LR] <;> omega) | fail) only [push_cast, simprocAttr, -Nat.reduceSubDiff]))
    refine callC (implValidStore s0 hs0) ?_
    (simp -dsimp (disch := first | omega | (simp only [hv0, LR] <;> omega) | fail) only [push_cast, hv0, simprocAttr, -Nat.reduceSubDiff]) <;> (repeat (refine (aw_draw (by kernel_rfl)).2 ?_; simp -dsimp (disch := first | omega | (simp only [hv0, LR] <;> omega) | fail) only [push_cast, hv0, simprocAttr, -Nat.reduceSubDiff]))
    refine callC (implNeeded s0 hs0) ?_
    have e : needF s0 = [] := by unfold needF; rw [if_pos hv0]
    (simp -dsimp (disch := first | omega | (simp only [hv0, e, LR] <;> omega) | fail) only [push_cast, hv0, e, simprocAttr, -Nat.reduceSubDiff]) <;> (repeat (refine (aw_draw (by kernel_rfl)).2 ?_; simp -dsimp (disch := first | omega | (simp only [hv0, e, LR] <;> omega) | fail) only [push_cast, hv0, e, simprocAttr, -Nat.reduceSubDiff]))
  | true =>
  (simp -dsimp (disch := first | omega | (simp only [LR] <;> omega) | fail) only [push_cast, simprocAttr, -Nat.reduceSubDiff]) <;> (repeat (refine (aw_draw (by kernel_rfl)).2 ?_; simp -dsimp (disch := first | omega | (simp only [LR] <;> omega) | fail) only [push_cast, simprocAttr, -Nat.reduceSubDiff]))
  refine loop_ind (α := Nat × Store) (fun q => q.1 ≤ 24 ∧ okStore q.2 ∧ validSt q.2 = true)
    (fun q => ⟨[(1, .sl false 1 (m.map numR)), (5, .pt 1 0 0), (6, .sc (.int .i64 q.1))],
      [(1, .bx [.sc (.int .i64 q.2.w), .sc (.int .i64 q.2.r), .ow 2 0 q.2.I.length, .ow 3 0 q.2.P.length]), (2, .ar 2 0 (q.2.I.map (itemC true))), (3, .ar 1 0 (q.2.P.map strR))], 4⟩) (fun q => 24 - q.1) (0, s0) ⟨Nat.zero_le _, hs0, hv0⟩ ?_ ?_
  · simp -dsimp (disch := first | omega | (simp only [LR] <;> omega) | fail) only [push_cast, simprocAttr, -Nat.reduceSubDiff]
  clear hv0 hs0
  rintro ⟨i, s⟩ ⟨g1, g2, g3⟩ ih
  replace g1 : i ≤ 24 := g1
  replace g2 : okStore s := g2
  replace g3 : validSt s = true := g3
  have gI := g2.1.1
  have gP := g2.2.1
  have fin : needF s = needL s := need_valid g3
  have nl := needL_len (valid_P g3)
  have last := wTexts (needL s) (by omega)
  by_cases h : i < 24 ∧ i < m.length
  rotate_left
  · have two : (¬ i < 24) ∨ (i < 24 ∧ ¬ i < m.length) := by omega
    rcases two with h1 | ⟨h1, h2⟩
    all_goals
      (simp -dsimp (disch := first | omega | (simp only [h1, LR] <;> omega) | fail) only [push_cast, h1, simprocAttr, -Nat.reduceSubDiff]) <;> (repeat (refine (aw_draw (by kernel_rfl)).2 ?_; simp -dsimp (disch := first | omega | (simp only [h1, LR] <;> omega) | fail) only [push_cast, h1, simprocAttr, -Nat.reduceSubDiff]))
      refine callC (implValidStore s g2) ?_
      (simp -dsimp (disch := first | omega | (simp only [g3, LR] <;> omega) | fail) only [push_cast, g3, simprocAttr, -Nat.reduceSubDiff]) <;> (repeat (refine (aw_draw (by kernel_rfl)).2 ?_; simp -dsimp (disch := first | omega | (simp only [g3, LR] <;> omega) | fail) only [push_cast, g3, simprocAttr, -Nat.reduceSubDiff]))
      refine callC (specValidStore s g2) ?_
      (simp -dsimp (disch := first | omega | (simp only [g3, LR] <;> omega) | fail) only [push_cast, g3, simprocAttr, -Nat.reduceSubDiff]) <;> (repeat (refine (aw_draw (by kernel_rfl)).2 ?_; simp -dsimp (disch := first | omega | (simp only [g3, LR] <;> omega) | fail) only [push_cast, g3, simprocAttr, -Nat.reduceSubDiff]))
      refine callC (implNeeded s g2) ?_
      (simp -dsimp (disch := first | omega | (simp only [g3, LR] <;> omega) | fail) only [push_cast, g3, simprocAttr, -Nat.reduceSubDiff]) <;> (repeat (refine (aw_draw (by kernel_rfl)).2 ?_; simp -dsimp (disch := first | omega | (simp only [g3, LR] <;> omega) | fail) only [push_cast, g3, simprocAttr, -Nat.reduceSubDiff]))
      refine callC (specNeeded s g2) ?_
      (simp -dsimp (disch := first | omega | (simp only [g3, fin, LR] <;> omega) | fail) only [push_cast, g3, fin, simprocAttr, -Nat.reduceSubDiff]) <;> (repeat (refine (aw_draw (by kernel_rfl)).2 ?_; simp -dsimp (disch := first | omega | (simp only [g3, fin, LR] <;> omega) | fail) only [push_cast, g3, fin, simprocAttr, -Nat.reduceSubDiff]))
      refine callC last ?_
      (simp -dsimp (disch := first | omega | (simp only [LR] <;> omega) | fail) only [push_cast, simprocAttr, -Nat.reduceSubDiff]) <;> (repeat (refine (aw_draw (by kernel_rfl)).2 ?_; simp -dsimp (disch := first | omega | (simp only [LR] <;> omega) | fail) only [push_cast, simprocAttr, -Nat.reduceSubDiff]))
  obtain ⟨h1, h2⟩ := h
  obtain ⟨v, hv⟩ := ex_get h2
  have hvb := hm v (List.mem_of_getElem? hv)
  have hne : (m.map numR).isEmpty = false := by cases m <;> simp at h2 ⊢
  have e3 : ((m.length : Int) - (i : Int)).toNat = m.length - i := by omega
  have hnv : numR v = [.sc (.int .u8 v)] := rfl
  (simp -dsimp (disch := first | omega | (simp only [h1, h2, hne, e3, seg_dr, LR] <;> omega) | fail) only [push_cast, h1, h2, hne, e3, seg_dr, simprocAttr, -Nat.reduceSubDiff]) <;> (repeat (refine (aw_draw (by kernel_rfl)).2 ?_; simp -dsimp (disch := first | omega | (simp only [h1, h2, hne, e3, seg_dr, LR] <;> omega) | fail) only [push_cast, h1, h2, hne, e3, seg_dr, simprocAttr, -Nat.reduceSubDiff]))
  refine some_call (drawSave (m.drop i) (by rw [List.length_drop]; omega) (fun y hy => hm y (List.mem_of_mem_drop hy))) ?_
  rintro _ ⟨s2, t, now, rfl, hs2, ht⟩
  clear hs2
  have hmod : v.tmod 5 = v % 5 := Int.tmod_eq_emod_of_nonneg hvb.1
  rcases (show v.tmod 5 = 0 ∨ v.tmod 5 = 1 ∨ v.tmod 5 = 2 ∨ v.tmod 5 = 3 ∨ v.tmod 5 = 4 by omega) with hev | hev | hev | hev | hev
  · have po := put_ok (now := now) (t := t) g2 (by omega)
    have pk := fun e : (putF s t now).2 = 0 => kp_put e
    have pn := fun e : (putF s t now).2 = 0 => put_new e
    have d1 := implPut s t now g2 (by omega)
    have d2 := specPut s t now g2 (by omega)
    generalize putF s t now = A at *
    obtain ⟨x, k⟩ := A
    simp only at po pk pn d1 d2
    (simp -dsimp (disch := first | omega | (simp only [hv, hnv, hev, wr_id, LR] <;> omega) | fail) only [push_cast, hv, hnv, hev, wr_id, simprocAttr, -Nat.reduceSubDiff]) <;> (repeat (refine (aw_draw (by kernel_rfl)).2 ?_; simp -dsimp (disch := first | omega | (simp only [hv, hnv, hev, wr_id, LR] <;> omega) | fail) only [push_cast, hv, hnv, hev, wr_id, simprocAttr, -Nat.reduceSubDiff]))
    refine callC d1 ?_
    (simp -dsimp (disch := first | omega | (simp only [LR] <;> omega) | fail) only [push_cast, simprocAttr, -Nat.reduceSubDiff]) <;> (repeat (refine (aw_draw (by kernel_rfl)).2 ?_; simp -dsimp (disch := first | omega | (simp only [LR] <;> omega) | fail) only [push_cast, simprocAttr, -Nat.reduceSubDiff]))
    refine callC d2 ?_
    (simp -dsimp (disch := first | omega | (simp only [LR] <;> omega) | fail) only [push_cast, simprocAttr, -Nat.reduceSubDiff]) <;> (repeat (refine (aw_draw (by kernel_rfl)).2 ?_; simp -dsimp (disch := first | omega | (simp only [LR] <;> omega) | fail) only [push_cast, simprocAttr, -Nat.reduceSubDiff]))
    refine callC (wStore x po) ?_
    by_cases hk : k = 0
    · subst hk
      have pk := pk rfl
      have pn := pn rfl
      clear d1 d2
      (simp -dsimp (disch := first | omega | (simp only [LR] <;> omega) | fail) only [push_cast, simprocAttr, -Nat.reduceSubDiff]) <;> (repeat (refine (aw_draw (by kernel_rfl)).2 ?_; simp -dsimp (disch := first | omega | (simp only [LR] <;> omega) | fail) only [push_cast, simprocAttr, -Nat.reduceSubDiff]))
      refine callC (specNeeded s g2) ?_
      (simp -dsimp (disch := first | omega | (simp only [fin, LR] <;> omega) | fail) only [push_cast, fin, simprocAttr, -Nat.reduceSubDiff]) <;> (repeat (refine (aw_draw (by kernel_rfl)).2 ?_; simp -dsimp (disch := first | omega | (simp only [fin, LR] <;> omega) | fail) only [push_cast, fin, simprocAttr, -Nat.reduceSubDiff]))
      refine loop_ind (α := Nat) (fun k => k ≤ s.I.length)
        (fun k => ⟨[(1, .sl false 1 (m.map numR)), (5, .pt 1 0 0), (6, .sc (.int .i64 i)), (8, .sc (.string t)), (10, .pt 4 0 0), (18, .ow 7 0 (needL s).length), (19, .sc (.int .i64 k))],
          [(1, .bx [.sc (.int .i64 s.w), .sc (.int .i64 s.r), .ow 2 0 s.I.length, .ow 3 0 s.P.length]), (2, .ar 2 0 (s.I.map (itemC true))), (3, .ar 1 0 (s.P.map strR)),
            (4, .bx [.sc (.int .i64 x.w), .sc (.int .i64 x.r), .ow 5 0 x.I.length, .ow 6 0 x.P.length]), (5, .ar 2 0 (x.I.map (itemC true))), (6, .ar 1 0 (x.P.map strR)), (7, .ar 1 0 ((needL s).map strR))], 8⟩) (fun k => s.I.length - k) 0 (Nat.zero_le _) ?_ ?_
      · simp -dsimp (disch := first | omega | (simp only [LR] <;> omega) | fail) only [push_cast, simprocAttr, -Nat.reduceSubDiff]
      intro j hj ih2
      by_cases hjl : j < s.I.length
      · obtain ⟨u, hu⟩ := ex_get hjl
        have hut : u.t.size ≤ 2097152 := g2.1.2 u (List.mem_of_getElem? hu)
        have dg := specGet x (sumS u.t s.w) 0 po
        have dk : inL (needL s) (sumS u.t s.w) = true → (getF x (sumS u.t s.w) 0).2 = true := fun q => get_there pk.2.1 (by decide) (kp_there pk (List.mem_of_getElem? hu) q)
        have dl := (get_ok (n := sumS u.t s.w) (now := 0) po).1.1
        generalize getF x (sumS u.t s.w) 0 = R at *
        (simp -dsimp (disch := first | omega | (simp only [hjl, hu, LR] <;> omega) | fail) only [push_cast, hjl, hu, simprocAttr, -Nat.reduceSubDiff]) <;> (repeat (refine (aw_draw (by kernel_rfl)).2 ?_; simp -dsimp (disch := first | omega | (simp only [hjl, hu, LR] <;> omega) | fail) only [push_cast, hjl, hu, simprocAttr, -Nat.reduceSubDiff]))
        refine callC (specSum u.t s.w (by omega)) ?_
        (simp -dsimp (disch := first | omega | (simp only [LR] <;> omega) | fail) only [push_cast, simprocAttr, -Nat.reduceSubDiff]) <;> (repeat (refine (aw_draw (by kernel_rfl)).2 ?_; simp -dsimp (disch := first | omega | (simp only [LR] <;> omega) | fail) only [push_cast, simprocAttr, -Nat.reduceSubDiff]))
        refine callC dg ?_
        (simp -dsimp (disch := first | omega | (simp only [LR] <;> omega) | fail) only [push_cast, simprocAttr, -Nat.reduceSubDiff]) <;> (repeat (refine (aw_draw (by kernel_rfl)).2 ?_; simp -dsimp (disch := first | omega | (simp only [LR] <;> omega) | fail) only [push_cast, simprocAttr, -Nat.reduceSubDiff]))
        refine callC (wIn (needL s) (sumS u.t s.w) (by omega)) ?_
        cases hin : inL (needL s) (sumS u.t s.w) with
        | false =>
          (simp -dsimp (disch := first | omega | (simp only [LR] <;> omega) | fail) only [push_cast, simprocAttr, -Nat.reduceSubDiff]) <;> (repeat (refine (aw_draw (by kernel_rfl)).2 ?_; simp -dsimp (disch := first | omega | (simp only [LR] <;> omega) | fail) only [push_cast, simprocAttr, -Nat.reduceSubDiff]))
          refine ih2 (j + 1) _ (by omega) hjl ?_
          simp -dsimp (disch := first | omega | (simp only [wr_id, LR] <;> omega) | fail) only [push_cast, wr_id, simprocAttr, -Nat.reduceSubDiff]
        | true =>
          have dk := dk hin
          (simp -dsimp (disch := first | omega | (simp only [dk, LR] <;> omega) | fail) only [push_cast, dk, simprocAttr, -Nat.reduceSubDiff]) <;> (repeat (refine (aw_draw (by kernel_rfl)).2 ?_; simp -dsimp (disch := first | omega | (simp only [dk, LR] <;> omega) | fail) only [push_cast, dk, simprocAttr, -Nat.reduceSubDiff]))
          refine ih2 (j + 1) _ (by omega) hjl ?_
          simp -dsimp (disch := first | omega | (simp only [wr_id, LR] <;> omega) | fail) only [push_cast, wr_id, simprocAttr, -Nat.reduceSubDiff]
      have dg := implGet x (sumS t s.w) 0 po
      have dk : (getF x (sumS t s.w) 0).2 = true := by
        have := (has_at pk.2.1 pn).1
        rw [pk.1] at this
        exact get_there pk.2.1 (by decide) (by rw [pk.1]; exact this)
      generalize getF x (sumS t s.w) 0 = R at *
      (simp -dsimp (disch := first | omega | (simp only [hjl, hv, hnv, hev, wr_id, LR] <;> omega) | fail) only [push_cast, hjl, hv, hnv, hev, wr_id, simprocAttr, -Nat.reduceSubDiff]) <;> (repeat (refine (aw_draw (by kernel_rfl)).2 ?_; simp -dsimp (disch := first | omega | (simp only [hjl, hv, hnv, hev, wr_id, LR] <;> omega) | fail) only [push_cast, hjl, hv, hnv, hev, wr_id, simprocAttr, -Nat.reduceSubDiff]))
      refine callC (specSum t s.w (by omega)) ?_
      (simp -dsimp (disch := first | omega | (simp only [LR] <;> omega) | fail) only [push_cast, simprocAttr, -Nat.reduceSubDiff]) <;> (repeat (refine (aw_draw (by kernel_rfl)).2 ?_; simp -dsimp (disch := first | omega | (simp only [LR] <;> omega) | fail) only [push_cast, simprocAttr, -Nat.reduceSubDiff]))
      refine callC dg ?_
      (simp -dsimp (disch := first | omega | (simp only [dk, LR] <;> omega) | fail) only [push_cast, dk, simprocAttr, -Nat.reduceSubDiff]) <;> (repeat (refine (aw_draw (by kernel_rfl)).2 ?_; simp -dsimp (disch := first | omega | (simp only [dk, LR] <;> omega) | fail) only [push_cast, dk, simprocAttr, -Nat.reduceSubDiff]))
      refine ih (i + 1, x) _ (by show 24 - (i + 1) < 24 - i; omega) ⟨h1, po, pk.2.1⟩ ?_
      simp -dsimp (disch := first | omega | (simp only [wr_id, LR] <;> omega) | fail) only [push_cast, wr_id, simprocAttr, -Nat.reduceSubDiff]
    · (simp -dsimp (disch := first | omega | (simp only [hk, LR] <;> omega) | fail) only [push_cast, hk, simprocAttr, -Nat.reduceSubDiff]) <;> (repeat (refine (aw_draw (by kernel_rfl)).2 ?_; simp -dsimp (disch := first | omega | (simp only [hk, LR] <;> omega) | fail) only [push_cast, hk, simprocAttr, -Nat.reduceSubDiff]))
      refine ih (i + 1, s) _ (by show 24 - (i + 1) < 24 - i; omega) ⟨h1, g2, g3⟩ ?_
      simp -dsimp (disch := first | omega | (simp only [wr_id, LR] <;> omega) | fail) only [push_cast, wr_id, simprocAttr, -Nat.reduceSubDiff]
  · have po := save_ok (now := now) (t := t) g2
    have pk := fun e : (saveF s t now).2 = 0 => kp_save e
    have d1 := implSave s t now g2 (by omega)
    have d2 := specSave s t now g2 (by omega)
    generalize saveF s t now = A at *
    obtain ⟨x, k⟩ := A
    simp only at po pk d1 d2
    (simp -dsimp (disch := first | omega | (simp only [hv, hnv, hev, wr_id, LR] <;> omega) | fail) only [push_cast, hv, hnv, hev, wr_id, simprocAttr, -Nat.reduceSubDiff]) <;> (repeat (refine (aw_draw (by kernel_rfl)).2 ?_; simp -dsimp (disch := first | omega | (simp only [hv, hnv, hev, wr_id, LR] <;> omega) | fail) only [push_cast, hv, hnv, hev, wr_id, simprocAttr, -Nat.reduceSubDiff]))
    refine callC d1 ?_
    (simp -dsimp (disch := first | omega | (simp only [LR] <;> omega) | fail) only [push_cast, simprocAttr, -Nat.reduceSubDiff]) <;> (repeat (refine (aw_draw (by kernel_rfl)).2 ?_; simp -dsimp (disch := first | omega | (simp only [LR] <;> omega) | fail) only [push_cast, simprocAttr, -Nat.reduceSubDiff]))
    refine callC d2 ?_
    (simp -dsimp (disch := first | omega | (simp only [LR] <;> omega) | fail) only [push_cast, simprocAttr, -Nat.reduceSubDiff]) <;> (repeat (refine (aw_draw (by kernel_rfl)).2 ?_; simp -dsimp (disch := first | omega | (simp only [LR] <;> omega) | fail) only [push_cast, simprocAttr, -Nat.reduceSubDiff]))
    refine callC (wStore x po) ?_
    by_cases hk : k = 0
    · subst hk
      have pk := pk rfl
      clear d1 d2
      (simp -dsimp (disch := first | omega | (simp only [LR] <;> omega) | fail) only [push_cast, simprocAttr, -Nat.reduceSubDiff]) <;> (repeat (refine (aw_draw (by kernel_rfl)).2 ?_; simp -dsimp (disch := first | omega | (simp only [LR] <;> omega) | fail) only [push_cast, simprocAttr, -Nat.reduceSubDiff]))
      refine callC (specNeeded s g2) ?_
      (simp -dsimp (disch := first | omega | (simp only [fin, LR] <;> omega) | fail) only [push_cast, fin, simprocAttr, -Nat.reduceSubDiff]) <;> (repeat (refine (aw_draw (by kernel_rfl)).2 ?_; simp -dsimp (disch := first | omega | (simp only [fin, LR] <;> omega) | fail) only [push_cast, fin, simprocAttr, -Nat.reduceSubDiff]))
      refine loop_ind (α := Nat) (fun k => k ≤ s.I.length)
        (fun k => ⟨[(1, .sl false 1 (m.map numR)), (5, .pt 1 0 0), (6, .sc (.int .i64 i)), (8, .sc (.string t)), (10, .pt 4 0 0), (18, .ow 7 0 (needL s).length), (19, .sc (.int .i64 k))],
          [(1, .bx [.sc (.int .i64 s.w), .sc (.int .i64 s.r), .ow 2 0 s.I.length, .ow 3 0 s.P.length]), (2, .ar 2 0 (s.I.map (itemC true))), (3, .ar 1 0 (s.P.map strR)),
            (4, .bx [.sc (.int .i64 x.w), .sc (.int .i64 x.r), .ow 5 0 x.I.length, .ow 6 0 x.P.length]), (5, .ar 2 0 (x.I.map (itemC true))), (6, .ar 1 0 (x.P.map strR)), (7, .ar 1 0 ((needL s).map strR))], 8⟩) (fun k => s.I.length - k) 0 (Nat.zero_le _) ?_ ?_
      · simp -dsimp (disch := first | omega | (simp only [LR] <;> omega) | fail) only [push_cast, simprocAttr, -Nat.reduceSubDiff]
      intro j hj ih2
      by_cases hjl : j < s.I.length
      · obtain ⟨u, hu⟩ := ex_get hjl
        have hut : u.t.size ≤ 2097152 := g2.1.2 u (List.mem_of_getElem? hu)
        have dg := specGet x (sumS u.t s.w) 0 po
        have dk : inL (needL s) (sumS u.t s.w) = true → (getF x (sumS u.t s.w) 0).2 = true := fun q => get_there pk.2.1 (by decide) (kp_there pk (List.mem_of_getElem? hu) q)
        have dl := (get_ok (n := sumS u.t s.w) (now := 0) po).1.1
        generalize getF x (sumS u.t s.w) 0 = R at *
        (simp -dsimp (disch := first | omega | (simp only [hjl, hu, LR] <;> omega) | fail) only [push_cast, hjl, hu, simprocAttr, -Nat.reduceSubDiff]) <;> (repeat (refine (aw_draw (by kernel_rfl)).2 ?_; simp -dsimp (disch := first | omega | (simp only [hjl, hu, LR] <;> omega) | fail) only [push_cast, hjl, hu, simprocAttr, -Nat.reduceSubDiff]))
        refine callC (specSum u.t s.w (by omega)) ?_
        (simp -dsimp (disch := first | omega | (simp only [LR] <;> omega) | fail) only [push_cast, simprocAttr, -Nat.reduceSubDiff]) <;> (repeat (refine (aw_draw (by kernel_rfl)).2 ?_; simp -dsimp (disch := first | omega | (simp only [LR] <;> omega) | fail) only [push_cast, simprocAttr, -Nat.reduceSubDiff]))
        refine callC dg ?_
        (simp -dsimp (disch := first | omega | (simp only [LR] <;> omega) | fail) only [push_cast, simprocAttr, -Nat.reduceSubDiff]) <;> (repeat (refine (aw_draw (by kernel_rfl)).2 ?_; simp -dsimp (disch := first | omega | (simp only [LR] <;> omega) | fail) only [push_cast, simprocAttr, -Nat.reduceSubDiff]))
        refine callC (wIn (needL s) (sumS u.t s.w) (by omega)) ?_
        cases hin : inL (needL s) (sumS u.t s.w) with
        | false =>
          (simp -dsimp (disch := first | omega | (simp only [LR] <;> omega) | fail) only [push_cast, simprocAttr, -Nat.reduceSubDiff]) <;> (repeat (refine (aw_draw (by kernel_rfl)).2 ?_; simp -dsimp (disch := first | omega | (simp only [LR] <;> omega) | fail) only [push_cast, simprocAttr, -Nat.reduceSubDiff]))
          refine ih2 (j + 1) _ (by omega) hjl ?_
          simp -dsimp (disch := first | omega | (simp only [wr_id, LR] <;> omega) | fail) only [push_cast, wr_id, simprocAttr, -Nat.reduceSubDiff]
        | true =>
          have dk := dk hin
          (simp -dsimp (disch := first | omega | (simp only [dk, LR] <;> omega) | fail) only [push_cast, dk, simprocAttr, -Nat.reduceSubDiff]) <;> (repeat (refine (aw_draw (by kernel_rfl)).2 ?_; simp -dsimp (disch := first | omega | (simp only [dk, LR] <;> omega) | fail) only [push_cast, dk, simprocAttr, -Nat.reduceSubDiff]))
          refine ih2 (j + 1) _ (by omega) hjl ?_
          simp -dsimp (disch := first | omega | (simp only [wr_id, LR] <;> omega) | fail) only [push_cast, wr_id, simprocAttr, -Nat.reduceSubDiff]
      (simp -dsimp (disch := first | omega | (simp only [hjl, hv, hnv, hev, wr_id, LR] <;> omega) | fail) only [push_cast, hjl, hv, hnv, hev, wr_id, simprocAttr, -Nat.reduceSubDiff]) <;> (repeat (refine (aw_draw (by kernel_rfl)).2 ?_; simp -dsimp (disch := first | omega | (simp only [hjl, hv, hnv, hev, wr_id, LR] <;> omega) | fail) only [push_cast, hjl, hv, hnv, hev, wr_id, simprocAttr, -Nat.reduceSubDiff]))
      refine ih (i + 1, x) _ (by show 24 - (i + 1) < 24 - i; omega) ⟨h1, po, pk.2.1⟩ ?_
      simp -dsimp (disch := first | omega | (simp only [wr_id, LR] <;> omega) | fail) only [push_cast, wr_id, simprocAttr, -Nat.reduceSubDiff]
    · (simp -dsimp (disch := first | omega | (simp only [hk, LR] <;> omega) | fail) only [push_cast, hk, simprocAttr, -Nat.reduceSubDiff]) <;> (repeat (refine (aw_draw (by kernel_rfl)).2 ?_; simp -dsimp (disch := first | omega | (simp only [hk, LR] <;> omega) | fail) only [push_cast, hk, simprocAttr, -Nat.reduceSubDiff]))
      refine ih (i + 1, s) _ (by show 24 - (i + 1) < 24 - i; omega) ⟨h1, g2, g3⟩ ?_
      simp -dsimp (disch := first | omega | (simp only [wr_id, LR] <;> omega) | fail) only [push_cast, wr_id, simprocAttr, -Nat.reduceSubDiff]
  · by_cases hp : 0 < s.P.length
    rotate_left
    · have pk : KP s s := ⟨rfl, g3, fun _ h _ => h⟩
      (simp -dsimp (disch := first | omega | (simp only [hv, hnv, hev, wr_id, hp, LR] <;> omega) | fail) only [push_cast, hv, hnv, hev, wr_id, hp, simprocAttr, -Nat.reduceSubDiff]) <;> (repeat (refine (aw_draw (by kernel_rfl)).2 ?_; simp -dsimp (disch := first | omega | (simp only [hv, hnv, hev, wr_id, hp, LR] <;> omega) | fail) only [push_cast, hv, hnv, hev, wr_id, hp, simprocAttr, -Nat.reduceSubDiff]))
      refine callC (wStore s g2) ?_
      (simp -dsimp (disch := first | omega | (simp only [LR] <;> omega) | fail) only [push_cast, simprocAttr, -Nat.reduceSubDiff]) <;> (repeat (refine (aw_draw (by kernel_rfl)).2 ?_; simp -dsimp (disch := first | omega | (simp only [LR] <;> omega) | fail) only [push_cast, simprocAttr, -Nat.reduceSubDiff]))
      refine callC (specNeeded s g2) ?_
      (simp -dsimp (disch := first | omega | (simp only [fin, LR] <;> omega) | fail) only [push_cast, fin, simprocAttr, -Nat.reduceSubDiff]) <;> (repeat (refine (aw_draw (by kernel_rfl)).2 ?_; simp -dsimp (disch := first | omega | (simp only [fin, LR] <;> omega) | fail) only [push_cast, fin, simprocAttr, -Nat.reduceSubDiff]))
      refine loop_ind (α := Nat) (fun k => k ≤ s.I.length)
        (fun k => ⟨[(1, .sl false 1 (m.map numR)), (5, .pt 1 0 0), (6, .sc (.int .i64 i)), (8, .sc (.string t)), (10, .pt 4 0 0), (18, .ow 5 0 (needL s).length), (19, .sc (.int .i64 k))],
          [(1, .bx [.sc (.int .i64 s.w), .sc (.int .i64 s.r), .ow 2 0 s.I.length, .ow 3 0 s.P.length]), (2, .ar 2 0 (s.I.map (itemC true))), (3, .ar 1 0 (s.P.map strR)),
            (4, .bx [.sc (.int .i64 s.w), .sc (.int .i64 s.r), .ow 2 0 s.I.length, .ow 3 0 s.P.length]), (5, .ar 1 0 ((needL s).map strR))], 6⟩) (fun k => s.I.length - k) 0 (Nat.zero_le _) ?_ ?_
      · simp -dsimp (disch := first | omega | (simp only [LR] <;> omega) | fail) only [push_cast, simprocAttr, -Nat.reduceSubDiff]
      intro j hj ih2
      by_cases hjl : j < s.I.length
      · obtain ⟨u, hu⟩ := ex_get hjl
        have hut : u.t.size ≤ 2097152 := g2.1.2 u (List.mem_of_getElem? hu)
        have dg := specGet s (sumS u.t s.w) 0 g2
        have dk : inL (needL s) (sumS u.t s.w) = true → (getF s (sumS u.t s.w) 0).2 = true := fun q => get_there pk.2.1 (by decide) (kp_there pk (List.mem_of_getElem? hu) q)
        have dl := (get_ok (n := sumS u.t s.w) (now := 0) g2).1.1
        generalize getF s (sumS u.t s.w) 0 = R at *
        (simp -dsimp (disch := first | omega | (simp only [hjl, hu, LR] <;> omega) | fail) only [push_cast, hjl, hu, simprocAttr, -Nat.reduceSubDiff]) <;> (repeat (refine (aw_draw (by kernel_rfl)).2 ?_; simp -dsimp (disch := first | omega | (simp only [hjl, hu, LR] <;> omega) | fail) only [push_cast, hjl, hu, simprocAttr, -Nat.reduceSubDiff]))
        refine callC (specSum u.t s.w (by omega)) ?_
        (simp -dsimp (disch := first | omega | (simp only [LR] <;> omega) | fail) only [push_cast, simprocAttr, -Nat.reduceSubDiff]) <;> (repeat (refine (aw_draw (by kernel_rfl)).2 ?_; simp -dsimp (disch := first | omega | (simp only [LR] <;> omega) | fail) only [push_cast, simprocAttr, -Nat.reduceSubDiff]))
        refine callC dg ?_
        (simp -dsimp (disch := first | omega | (simp only [LR] <;> omega) | fail) only [push_cast, simprocAttr, -Nat.reduceSubDiff]) <;> (repeat (refine (aw_draw (by kernel_rfl)).2 ?_; simp -dsimp (disch := first | omega | (simp only [LR] <;> omega) | fail) only [push_cast, simprocAttr, -Nat.reduceSubDiff]))
        refine callC (wIn (needL s) (sumS u.t s.w) (by omega)) ?_
        cases hin : inL (needL s) (sumS u.t s.w) with
        | false =>
          (simp -dsimp (disch := first | omega | (simp only [LR] <;> omega) | fail) only [push_cast, simprocAttr, -Nat.reduceSubDiff]) <;> (repeat (refine (aw_draw (by kernel_rfl)).2 ?_; simp -dsimp (disch := first | omega | (simp only [LR] <;> omega) | fail) only [push_cast, simprocAttr, -Nat.reduceSubDiff]))
          refine ih2 (j + 1) _ (by omega) hjl ?_
          simp -dsimp (disch := first | omega | (simp only [wr_id, LR] <;> omega) | fail) only [push_cast, wr_id, simprocAttr, -Nat.reduceSubDiff]
        | true =>
          have dk := dk hin
          (simp -dsimp (disch := first | omega | (simp only [dk, LR] <;> omega) | fail) only [push_cast, dk, simprocAttr, -Nat.reduceSubDiff]) <;> (repeat (refine (aw_draw (by kernel_rfl)).2 ?_; simp -dsimp (disch := first | omega | (simp only [dk, LR] <;> omega) | fail) only [push_cast, dk, simprocAttr, -Nat.reduceSubDiff]))
          refine ih2 (j + 1) _ (by omega) hjl ?_
          simp -dsimp (disch := first | omega | (simp only [wr_id, LR] <;> omega) | fail) only [push_cast, wr_id, simprocAttr, -Nat.reduceSubDiff]
      (simp -dsimp (disch := first | omega | (simp only [hjl, hv, hnv, hev, wr_id, LR] <;> omega) | fail) only [push_cast, hjl, hv, hnv, hev, wr_id, simprocAttr, -Nat.reduceSubDiff]) <;> (repeat (refine (aw_draw (by kernel_rfl)).2 ?_; simp -dsimp (disch := first | omega | (simp only [hjl, hv, hnv, hev, wr_id, LR] <;> omega) | fail) only [push_cast, hjl, hv, hnv, hev, wr_id, simprocAttr, -Nat.reduceSubDiff]))
      refine ih (i + 1, s) _ (by show 24 - (i + 1) < 24 - i; omega) ⟨h1, g2, g3⟩ ?_
      simp -dsimp (disch := first | omega | (simp only [wr_id, LR] <;> omega) | fail) only [push_cast, wr_id, simprocAttr, -Nat.reduceSubDiff]
    have e9 := tmod_nat i s.P.length
    have hml := Nat.mod_lt i hp
    generalize i % s.P.length = jj at *
    obtain ⟨n, hn⟩ := ex_get hml
    have po := unpin_ok (n := n) g2
    have pk := fun e : (unpinS s n).2 = 0 => kp_unpin e
    have d1 := implUnpin s n g2
    have d2 := specUnpin s n g2
    generalize unpinS s n = A at *
    obtain ⟨x, k⟩ := A
    simp only at po pk d1 d2
    (simp -dsimp (disch := first | omega | (simp only [hv, hnv, hev, wr_id, hp, e9, hn, Int.toNat_natCast, LR] <;> omega) | fail) only [push_cast, hv, hnv, hev, wr_id, hp, e9, hn, Int.toNat_natCast, simprocAttr, -Nat.reduceSubDiff]) <;> (repeat (refine (aw_draw (by kernel_rfl)).2 ?_; simp -dsimp (disch := first | omega | (simp only [hv, hnv, hev, wr_id, hp, e9, hn, Int.toNat_natCast, LR] <;> omega) | fail) only [push_cast, hv, hnv, hev, wr_id, hp, e9, hn, Int.toNat_natCast, simprocAttr, -Nat.reduceSubDiff]))
    refine callC d1 ?_
    (simp -dsimp (disch := first | omega | (simp only [hp, e9, hn, Int.toNat_natCast, LR] <;> omega) | fail) only [push_cast, hp, e9, hn, Int.toNat_natCast, simprocAttr, -Nat.reduceSubDiff]) <;> (repeat (refine (aw_draw (by kernel_rfl)).2 ?_; simp -dsimp (disch := first | omega | (simp only [hp, e9, hn, Int.toNat_natCast, LR] <;> omega) | fail) only [push_cast, hp, e9, hn, Int.toNat_natCast, simprocAttr, -Nat.reduceSubDiff]))
    refine callC d2 ?_
    (simp -dsimp (disch := first | omega | (simp only [LR] <;> omega) | fail) only [push_cast, simprocAttr, -Nat.reduceSubDiff]) <;> (repeat (refine (aw_draw (by kernel_rfl)).2 ?_; simp -dsimp (disch := first | omega | (simp only [LR] <;> omega) | fail) only [push_cast, simprocAttr, -Nat.reduceSubDiff]))
    refine callC (wStore x po) ?_
    by_cases hk : k = 0
    · subst hk
      have pk := pk rfl
      clear d1 d2
      (simp -dsimp (disch := first | omega | (simp only [LR] <;> omega) | fail) only [push_cast, simprocAttr, -Nat.reduceSubDiff]) <;> (repeat (refine (aw_draw (by kernel_rfl)).2 ?_; simp -dsimp (disch := first | omega | (simp only [LR] <;> omega) | fail) only [push_cast, simprocAttr, -Nat.reduceSubDiff]))
      refine callC (specNeeded s g2) ?_
      (simp -dsimp (disch := first | omega | (simp only [fin, LR] <;> omega) | fail) only [push_cast, fin, simprocAttr, -Nat.reduceSubDiff]) <;> (repeat (refine (aw_draw (by kernel_rfl)).2 ?_; simp -dsimp (disch := first | omega | (simp only [fin, LR] <;> omega) | fail) only [push_cast, fin, simprocAttr, -Nat.reduceSubDiff]))
      refine loop_ind (α := Nat) (fun k => k ≤ s.I.length)
        (fun k => ⟨[(1, .sl false 1 (m.map numR)), (5, .pt 1 0 0), (6, .sc (.int .i64 i)), (8, .sc (.string t)), (10, .pt 4 0 0), (18, .ow 7 0 (needL s).length), (19, .sc (.int .i64 k))],
          [(1, .bx [.sc (.int .i64 s.w), .sc (.int .i64 s.r), .ow 2 0 s.I.length, .ow 3 0 s.P.length]), (2, .ar 2 0 (s.I.map (itemC true))), (3, .ar 1 0 (s.P.map strR)),
            (4, .bx [.sc (.int .i64 x.w), .sc (.int .i64 x.r), .ow 5 0 x.I.length, .ow 6 0 x.P.length]), (5, .ar 2 0 (x.I.map (itemC true))), (6, .ar 1 0 (x.P.map strR)), (7, .ar 1 0 ((needL s).map strR))], 8⟩) (fun k => s.I.length - k) 0 (Nat.zero_le _) ?_ ?_
      · simp -dsimp (disch := first | omega | (simp only [LR] <;> omega) | fail) only [push_cast, simprocAttr, -Nat.reduceSubDiff]
      intro j hj ih2
      by_cases hjl : j < s.I.length
      · obtain ⟨u, hu⟩ := ex_get hjl
        have hut : u.t.size ≤ 2097152 := g2.1.2 u (List.mem_of_getElem? hu)
        have dg := specGet x (sumS u.t s.w) 0 po
        have dk : inL (needL s) (sumS u.t s.w) = true → (getF x (sumS u.t s.w) 0).2 = true := fun q => get_there pk.2.1 (by decide) (kp_there pk (List.mem_of_getElem? hu) q)
        have dl := (get_ok (n := sumS u.t s.w) (now := 0) po).1.1
        generalize getF x (sumS u.t s.w) 0 = R at *
        (simp -dsimp (disch := first | omega | (simp only [hjl, hu, LR] <;> omega) | fail) only [push_cast, hjl, hu, simprocAttr, -Nat.reduceSubDiff]) <;> (repeat (refine (aw_draw (by kernel_rfl)).2 ?_; simp -dsimp (disch := first | omega | (simp only [hjl, hu, LR] <;> omega) | fail) only [push_cast, hjl, hu, simprocAttr, -Nat.reduceSubDiff]))
        refine callC (specSum u.t s.w (by omega)) ?_
        (simp -dsimp (disch := first | omega | (simp only [LR] <;> omega) | fail) only [push_cast, simprocAttr, -Nat.reduceSubDiff]) <;> (repeat (refine (aw_draw (by kernel_rfl)).2 ?_; simp -dsimp (disch := first | omega | (simp only [LR] <;> omega) | fail) only [push_cast, simprocAttr, -Nat.reduceSubDiff]))
        refine callC dg ?_
        (simp -dsimp (disch := first | omega | (simp only [LR] <;> omega) | fail) only [push_cast, simprocAttr, -Nat.reduceSubDiff]) <;> (repeat (refine (aw_draw (by kernel_rfl)).2 ?_; simp -dsimp (disch := first | omega | (simp only [LR] <;> omega) | fail) only [push_cast, simprocAttr, -Nat.reduceSubDiff]))
        refine callC (wIn (needL s) (sumS u.t s.w) (by omega)) ?_
        cases hin : inL (needL s) (sumS u.t s.w) with
        | false =>
          (simp -dsimp (disch := first | omega | (simp only [LR] <;> omega) | fail) only [push_cast, simprocAttr, -Nat.reduceSubDiff]) <;> (repeat (refine (aw_draw (by kernel_rfl)).2 ?_; simp -dsimp (disch := first | omega | (simp only [LR] <;> omega) | fail) only [push_cast, simprocAttr, -Nat.reduceSubDiff]))
          refine ih2 (j + 1) _ (by omega) hjl ?_
          simp -dsimp (disch := first | omega | (simp only [wr_id, LR] <;> omega) | fail) only [push_cast, wr_id, simprocAttr, -Nat.reduceSubDiff]
        | true =>
          have dk := dk hin
          (simp -dsimp (disch := first | omega | (simp only [dk, LR] <;> omega) | fail) only [push_cast, dk, simprocAttr, -Nat.reduceSubDiff]) <;> (repeat (refine (aw_draw (by kernel_rfl)).2 ?_; simp -dsimp (disch := first | omega | (simp only [dk, LR] <;> omega) | fail) only [push_cast, dk, simprocAttr, -Nat.reduceSubDiff]))
          refine ih2 (j + 1) _ (by omega) hjl ?_
          simp -dsimp (disch := first | omega | (simp only [wr_id, LR] <;> omega) | fail) only [push_cast, wr_id, simprocAttr, -Nat.reduceSubDiff]
      (simp -dsimp (disch := first | omega | (simp only [hjl, hv, hnv, hev, wr_id, LR] <;> omega) | fail) only [push_cast, hjl, hv, hnv, hev, wr_id, simprocAttr, -Nat.reduceSubDiff]) <;> (repeat (refine (aw_draw (by kernel_rfl)).2 ?_; simp -dsimp (disch := first | omega | (simp only [hjl, hv, hnv, hev, wr_id, LR] <;> omega) | fail) only [push_cast, hjl, hv, hnv, hev, wr_id, simprocAttr, -Nat.reduceSubDiff]))
      refine ih (i + 1, x) _ (by show 24 - (i + 1) < 24 - i; omega) ⟨h1, po, pk.2.1⟩ ?_
      simp -dsimp (disch := first | omega | (simp only [wr_id, LR] <;> omega) | fail) only [push_cast, wr_id, simprocAttr, -Nat.reduceSubDiff]
    · (simp -dsimp (disch := first | omega | (simp only [hk, LR] <;> omega) | fail) only [push_cast, hk, simprocAttr, -Nat.reduceSubDiff]) <;> (repeat (refine (aw_draw (by kernel_rfl)).2 ?_; simp -dsimp (disch := first | omega | (simp only [hk, LR] <;> omega) | fail) only [push_cast, hk, simprocAttr, -Nat.reduceSubDiff]))
      refine ih (i + 1, s) _ (by show 24 - (i + 1) < 24 - i; omega) ⟨h1, g2, g3⟩ ?_
      simp -dsimp (disch := first | omega | (simp only [wr_id, LR] <;> omega) | fail) only [push_cast, wr_id, simprocAttr, -Nat.reduceSubDiff]
  · have po := pinS_ok (n := nameS t s.w) g2 (by have := nameS_le t s.w; show _ ≤ 2097152; omega)
    have pk := fun e : (pinS s (nameS t s.w)).2 = 0 => kp_pin e
    have d1 := implPin s (nameS t s.w) g2
    have d2 := specPin s (nameS t s.w) g2
    generalize pinS s (nameS t s.w) = A at *
    obtain ⟨x, k⟩ := A
    simp only at po pk d1 d2
    (simp -dsimp (disch := first | omega | (simp only [hv, hnv, hev, wr_id, LR] <;> omega) | fail) only [push_cast, hv, hnv, hev, wr_id, simprocAttr, -Nat.reduceSubDiff]) <;> (repeat (refine (aw_draw (by kernel_rfl)).2 ?_; simp -dsimp (disch := first | omega | (simp only [hv, hnv, hev, wr_id, LR] <;> omega) | fail) only [push_cast, hv, hnv, hev, wr_id, simprocAttr, -Nat.reduceSubDiff]))
    refine callC (specName t s.w (by omega)) ?_
    (simp -dsimp (disch := first | omega | (simp only [LR] <;> omega) | fail) only [push_cast, simprocAttr, -Nat.reduceSubDiff]) <;> (repeat (refine (aw_draw (by kernel_rfl)).2 ?_; simp -dsimp (disch := first | omega | (simp only [LR] <;> omega) | fail) only [push_cast, simprocAttr, -Nat.reduceSubDiff]))
    refine callC d1 ?_
    (simp -dsimp (disch := first | omega | (simp only [LR] <;> omega) | fail) only [push_cast, simprocAttr, -Nat.reduceSubDiff]) <;> (repeat (refine (aw_draw (by kernel_rfl)).2 ?_; simp -dsimp (disch := first | omega | (simp only [LR] <;> omega) | fail) only [push_cast, simprocAttr, -Nat.reduceSubDiff]))
    refine callC (specName t s.w (by omega)) ?_
    (simp -dsimp (disch := first | omega | (simp only [LR] <;> omega) | fail) only [push_cast, simprocAttr, -Nat.reduceSubDiff]) <;> (repeat (refine (aw_draw (by kernel_rfl)).2 ?_; simp -dsimp (disch := first | omega | (simp only [LR] <;> omega) | fail) only [push_cast, simprocAttr, -Nat.reduceSubDiff]))
    refine callC d2 ?_
    (simp -dsimp (disch := first | omega | (simp only [LR] <;> omega) | fail) only [push_cast, simprocAttr, -Nat.reduceSubDiff]) <;> (repeat (refine (aw_draw (by kernel_rfl)).2 ?_; simp -dsimp (disch := first | omega | (simp only [LR] <;> omega) | fail) only [push_cast, simprocAttr, -Nat.reduceSubDiff]))
    refine callC (wStore x po) ?_
    by_cases hk : k = 0
    · subst hk
      have pk := pk rfl
      clear d1 d2
      (simp -dsimp (disch := first | omega | (simp only [LR] <;> omega) | fail) only [push_cast, simprocAttr, -Nat.reduceSubDiff]) <;> (repeat (refine (aw_draw (by kernel_rfl)).2 ?_; simp -dsimp (disch := first | omega | (simp only [LR] <;> omega) | fail) only [push_cast, simprocAttr, -Nat.reduceSubDiff]))
      refine callC (specNeeded s g2) ?_
      (simp -dsimp (disch := first | omega | (simp only [fin, LR] <;> omega) | fail) only [push_cast, fin, simprocAttr, -Nat.reduceSubDiff]) <;> (repeat (refine (aw_draw (by kernel_rfl)).2 ?_; simp -dsimp (disch := first | omega | (simp only [fin, LR] <;> omega) | fail) only [push_cast, fin, simprocAttr, -Nat.reduceSubDiff]))
      refine loop_ind (α := Nat) (fun k => k ≤ s.I.length)
        (fun k => ⟨[(1, .sl false 1 (m.map numR)), (5, .pt 1 0 0), (6, .sc (.int .i64 i)), (8, .sc (.string t)), (10, .pt 4 0 0), (18, .ow 7 0 (needL s).length), (19, .sc (.int .i64 k))],
          [(1, .bx [.sc (.int .i64 s.w), .sc (.int .i64 s.r), .ow 2 0 s.I.length, .ow 3 0 s.P.length]), (2, .ar 2 0 (s.I.map (itemC true))), (3, .ar 1 0 (s.P.map strR)),
            (4, .bx [.sc (.int .i64 x.w), .sc (.int .i64 x.r), .ow 5 0 x.I.length, .ow 6 0 x.P.length]), (5, .ar 2 0 (x.I.map (itemC true))), (6, .ar 1 0 (x.P.map strR)), (7, .ar 1 0 ((needL s).map strR))], 8⟩) (fun k => s.I.length - k) 0 (Nat.zero_le _) ?_ ?_
      · simp -dsimp (disch := first | omega | (simp only [LR] <;> omega) | fail) only [push_cast, simprocAttr, -Nat.reduceSubDiff]
      intro j hj ih2
      by_cases hjl : j < s.I.length
      · obtain ⟨u, hu⟩ := ex_get hjl
        have hut : u.t.size ≤ 2097152 := g2.1.2 u (List.mem_of_getElem? hu)
        have dg := specGet x (sumS u.t s.w) 0 po
        have dk : inL (needL s) (sumS u.t s.w) = true → (getF x (sumS u.t s.w) 0).2 = true := fun q => get_there pk.2.1 (by decide) (kp_there pk (List.mem_of_getElem? hu) q)
        have dl := (get_ok (n := sumS u.t s.w) (now := 0) po).1.1
        generalize getF x (sumS u.t s.w) 0 = R at *
        (simp -dsimp (disch := first | omega | (simp only [hjl, hu, LR] <;> omega) | fail) only [push_cast, hjl, hu, simprocAttr, -Nat.reduceSubDiff]) <;> (repeat (refine (aw_draw (by kernel_rfl)).2 ?_; simp -dsimp (disch := first | omega | (simp only [hjl, hu, LR] <;> omega) | fail) only [push_cast, hjl, hu, simprocAttr, -Nat.reduceSubDiff]))
        refine callC (specSum u.t s.w (by omega)) ?_
        (simp -dsimp (disch := first | omega | (simp only [LR] <;> omega) | fail) only [push_cast, simprocAttr, -Nat.reduceSubDiff]) <;> (repeat (refine (aw_draw (by kernel_rfl)).2 ?_; simp -dsimp (disch := first | omega | (simp only [LR] <;> omega) | fail) only [push_cast, simprocAttr, -Nat.reduceSubDiff]))
        refine callC dg ?_
        (simp -dsimp (disch := first | omega | (simp only [LR] <;> omega) | fail) only [push_cast, simprocAttr, -Nat.reduceSubDiff]) <;> (repeat (refine (aw_draw (by kernel_rfl)).2 ?_; simp -dsimp (disch := first | omega | (simp only [LR] <;> omega) | fail) only [push_cast, simprocAttr, -Nat.reduceSubDiff]))
        refine callC (wIn (needL s) (sumS u.t s.w) (by omega)) ?_
        cases hin : inL (needL s) (sumS u.t s.w) with
        | false =>
          (simp -dsimp (disch := first | omega | (simp only [LR] <;> omega) | fail) only [push_cast, simprocAttr, -Nat.reduceSubDiff]) <;> (repeat (refine (aw_draw (by kernel_rfl)).2 ?_; simp -dsimp (disch := first | omega | (simp only [LR] <;> omega) | fail) only [push_cast, simprocAttr, -Nat.reduceSubDiff]))
          refine ih2 (j + 1) _ (by omega) hjl ?_
          simp -dsimp (disch := first | omega | (simp only [wr_id, LR] <;> omega) | fail) only [push_cast, wr_id, simprocAttr, -Nat.reduceSubDiff]
        | true =>
          have dk := dk hin
          (simp -dsimp (disch := first | omega | (simp only [dk, LR] <;> omega) | fail) only [push_cast, dk, simprocAttr, -Nat.reduceSubDiff]) <;> (repeat (refine (aw_draw (by kernel_rfl)).2 ?_; simp -dsimp (disch := first | omega | (simp only [dk, LR] <;> omega) | fail) only [push_cast, dk, simprocAttr, -Nat.reduceSubDiff]))
          refine ih2 (j + 1) _ (by omega) hjl ?_
          simp -dsimp (disch := first | omega | (simp only [wr_id, LR] <;> omega) | fail) only [push_cast, wr_id, simprocAttr, -Nat.reduceSubDiff]
      (simp -dsimp (disch := first | omega | (simp only [hjl, hv, hnv, hev, wr_id, LR] <;> omega) | fail) only [push_cast, hjl, hv, hnv, hev, wr_id, simprocAttr, -Nat.reduceSubDiff]) <;> (repeat (refine (aw_draw (by kernel_rfl)).2 ?_; simp -dsimp (disch := first | omega | (simp only [hjl, hv, hnv, hev, wr_id, LR] <;> omega) | fail) only [push_cast, hjl, hv, hnv, hev, wr_id, simprocAttr, -Nat.reduceSubDiff]))
      refine ih (i + 1, x) _ (by show 24 - (i + 1) < 24 - i; omega) ⟨h1, po, pk.2.1⟩ ?_
      simp -dsimp (disch := first | omega | (simp only [wr_id, LR] <;> omega) | fail) only [push_cast, wr_id, simprocAttr, -Nat.reduceSubDiff]
    · (simp -dsimp (disch := first | omega | (simp only [hk, LR] <;> omega) | fail) only [push_cast, hk, simprocAttr, -Nat.reduceSubDiff]) <;> (repeat (refine (aw_draw (by kernel_rfl)).2 ?_; simp -dsimp (disch := first | omega | (simp only [hk, LR] <;> omega) | fail) only [push_cast, hk, simprocAttr, -Nat.reduceSubDiff]))
      refine ih (i + 1, s) _ (by show 24 - (i + 1) < 24 - i; omega) ⟨h1, g2, g3⟩ ?_
      simp -dsimp (disch := first | omega | (simp only [wr_id, LR] <;> omega) | fail) only [push_cast, wr_id, simprocAttr, -Nat.reduceSubDiff]
  · by_cases hp : 0 < s.I.length
    rotate_left
    · have pk : KP s s := ⟨rfl, g3, fun _ h _ => h⟩
      (simp -dsimp (disch := first | omega | (simp only [hv, hnv, hev, wr_id, hp, LR] <;> omega) | fail) only [push_cast, hv, hnv, hev, wr_id, hp, simprocAttr, -Nat.reduceSubDiff]) <;> (repeat (refine (aw_draw (by kernel_rfl)).2 ?_; simp -dsimp (disch := first | omega | (simp only [hv, hnv, hev, wr_id, hp, LR] <;> omega) | fail) only [push_cast, hv, hnv, hev, wr_id, hp, simprocAttr, -Nat.reduceSubDiff]))
      refine callC (wStore s g2) ?_
      (simp -dsimp (disch := first | omega | (simp only [LR] <;> omega) | fail) only [push_cast, simprocAttr, -Nat.reduceSubDiff]) <;> (repeat (refine (aw_draw (by kernel_rfl)).2 ?_; simp -dsimp (disch := first | omega | (simp only [LR] <;> omega) | fail) only [push_cast, simprocAttr, -Nat.reduceSubDiff]))
      refine callC (specNeeded s g2) ?_
      (simp -dsimp (disch := first | omega | (simp only [fin, LR] <;> omega) | fail) only [push_cast, fin, simprocAttr, -Nat.reduceSubDiff]) <;> (repeat (refine (aw_draw (by kernel_rfl)).2 ?_; simp -dsimp (disch := first | omega | (simp only [fin, LR] <;> omega) | fail) only [push_cast, fin, simprocAttr, -Nat.reduceSubDiff]))
      refine loop_ind (α := Nat) (fun k => k ≤ s.I.length)
        (fun k => ⟨[(1, .sl false 1 (m.map numR)), (5, .pt 1 0 0), (6, .sc (.int .i64 i)), (8, .sc (.string t)), (10, .pt 4 0 0), (18, .ow 5 0 (needL s).length), (19, .sc (.int .i64 k))],
          [(1, .bx [.sc (.int .i64 s.w), .sc (.int .i64 s.r), .ow 2 0 s.I.length, .ow 3 0 s.P.length]), (2, .ar 2 0 (s.I.map (itemC true))), (3, .ar 1 0 (s.P.map strR)),
            (4, .bx [.sc (.int .i64 s.w), .sc (.int .i64 s.r), .ow 2 0 s.I.length, .ow 3 0 s.P.length]), (5, .ar 1 0 ((needL s).map strR))], 6⟩) (fun k => s.I.length - k) 0 (Nat.zero_le _) ?_ ?_
      · simp -dsimp (disch := first | omega | (simp only [LR] <;> omega) | fail) only [push_cast, simprocAttr, -Nat.reduceSubDiff]
      intro j hj ih2
      by_cases hjl : j < s.I.length
      · obtain ⟨u, hu⟩ := ex_get hjl
        have hut : u.t.size ≤ 2097152 := g2.1.2 u (List.mem_of_getElem? hu)
        have dg := specGet s (sumS u.t s.w) 0 g2
        have dk : inL (needL s) (sumS u.t s.w) = true → (getF s (sumS u.t s.w) 0).2 = true := fun q => get_there pk.2.1 (by decide) (kp_there pk (List.mem_of_getElem? hu) q)
        have dl := (get_ok (n := sumS u.t s.w) (now := 0) g2).1.1
        generalize getF s (sumS u.t s.w) 0 = R at *
        (simp -dsimp (disch := first | omega | (simp only [hjl, hu, LR] <;> omega) | fail) only [push_cast, hjl, hu, simprocAttr, -Nat.reduceSubDiff]) <;> (repeat (refine (aw_draw (by kernel_rfl)).2 ?_; simp -dsimp (disch := first | omega | (simp only [hjl, hu, LR] <;> omega) | fail) only [push_cast, hjl, hu, simprocAttr, -Nat.reduceSubDiff]))
        refine callC (specSum u.t s.w (by omega)) ?_
        (simp -dsimp (disch := first | omega | (simp only [LR] <;> omega) | fail) only [push_cast, simprocAttr, -Nat.reduceSubDiff]) <;> (repeat (refine (aw_draw (by kernel_rfl)).2 ?_; simp -dsimp (disch := first | omega | (simp only [LR] <;> omega) | fail) only [push_cast, simprocAttr, -Nat.reduceSubDiff]))
        refine callC dg ?_
        (simp -dsimp (disch := first | omega | (simp only [LR] <;> omega) | fail) only [push_cast, simprocAttr, -Nat.reduceSubDiff]) <;> (repeat (refine (aw_draw (by kernel_rfl)).2 ?_; simp -dsimp (disch := first | omega | (simp only [LR] <;> omega) | fail) only [push_cast, simprocAttr, -Nat.reduceSubDiff]))
        refine callC (wIn (needL s) (sumS u.t s.w) (by omega)) ?_
        cases hin : inL (needL s) (sumS u.t s.w) with
        | false =>
          (simp -dsimp (disch := first | omega | (simp only [LR] <;> omega) | fail) only [push_cast, simprocAttr, -Nat.reduceSubDiff]) <;> (repeat (refine (aw_draw (by kernel_rfl)).2 ?_; simp -dsimp (disch := first | omega | (simp only [LR] <;> omega) | fail) only [push_cast, simprocAttr, -Nat.reduceSubDiff]))
          refine ih2 (j + 1) _ (by omega) hjl ?_
          simp -dsimp (disch := first | omega | (simp only [wr_id, LR] <;> omega) | fail) only [push_cast, wr_id, simprocAttr, -Nat.reduceSubDiff]
        | true =>
          have dk := dk hin
          (simp -dsimp (disch := first | omega | (simp only [dk, LR] <;> omega) | fail) only [push_cast, dk, simprocAttr, -Nat.reduceSubDiff]) <;> (repeat (refine (aw_draw (by kernel_rfl)).2 ?_; simp -dsimp (disch := first | omega | (simp only [dk, LR] <;> omega) | fail) only [push_cast, dk, simprocAttr, -Nat.reduceSubDiff]))
          refine ih2 (j + 1) _ (by omega) hjl ?_
          simp -dsimp (disch := first | omega | (simp only [wr_id, LR] <;> omega) | fail) only [push_cast, wr_id, simprocAttr, -Nat.reduceSubDiff]
      (simp -dsimp (disch := first | omega | (simp only [hjl, hv, hnv, hev, wr_id, LR] <;> omega) | fail) only [push_cast, hjl, hv, hnv, hev, wr_id, simprocAttr, -Nat.reduceSubDiff]) <;> (repeat (refine (aw_draw (by kernel_rfl)).2 ?_; simp -dsimp (disch := first | omega | (simp only [hjl, hv, hnv, hev, wr_id, LR] <;> omega) | fail) only [push_cast, hjl, hv, hnv, hev, wr_id, simprocAttr, -Nat.reduceSubDiff]))
      refine ih (i + 1, s) _ (by show 24 - (i + 1) < 24 - i; omega) ⟨h1, g2, g3⟩ ?_
      simp -dsimp (disch := first | omega | (simp only [wr_id, LR] <;> omega) | fail) only [push_cast, wr_id, simprocAttr, -Nat.reduceSubDiff]
    · have e9 := tmod_nat i s.I.length
      have hml := Nat.mod_lt i hp
      generalize i % s.I.length = jj at *
      obtain ⟨q, hq⟩ := ex_get hml
      have hqt : q.t.size ≤ 2097152 := g2.1.2 q (List.mem_of_getElem? hq)
      obtain ⟨n, hn⟩ : ∃ n, n = sumS q.t s.w := ⟨_, rfl⟩
      have hn2 : (getF s n i).2 = true := get_there g3 (decide_eq_true (by omega)) (by rw [hn]; exact (has_at g3 ⟨q, List.mem_of_getElem? hq, rfl⟩).1)
      have pk := kp_get hn2
      have po := get_ok (n := n) (now := (i : Int)) g2
      obtain ⟨ps, ⟨y, hy, hyt⟩, _⟩ := get_put hn2
      have hyt : (getF s n i).1.1.size ≤ 2097152 := by rw [← hyt]; exact g2.1.2 y hy
      have d1 := implGet s n i g2
      have d2 := specGet s n i g2
      generalize getF s n i = A at *
      obtain ⟨⟨z, x⟩, b⟩ := A
      simp only at hn2 po pk d1 d2 ps hyt
      subst hn2
      (simp -dsimp (disch := first | omega | (simp only [hv, hnv, hev, wr_id, hp, e9, hq, Int.toNat_natCast, LR] <;> omega) | fail) only [push_cast, hv, hnv, hev, wr_id, hp, e9, hq, Int.toNat_natCast, simprocAttr, -Nat.reduceSubDiff]) <;> (repeat (refine (aw_draw (by kernel_rfl)).2 ?_; simp -dsimp (disch := first | omega | (simp only [hv, hnv, hev, wr_id, hp, e9, hq, Int.toNat_natCast, LR] <;> omega) | fail) only [push_cast, hv, hnv, hev, wr_id, hp, e9, hq, Int.toNat_natCast, simprocAttr, -Nat.reduceSubDiff]))
      refine callC (specSum q.t s.w (by omega)) ?_
      rw [← hn]
      (simp -dsimp (disch := first | omega | (simp only [LR] <;> omega) | fail) only [push_cast, simprocAttr, -Nat.reduceSubDiff]) <;> (repeat (refine (aw_draw (by kernel_rfl)).2 ?_; simp -dsimp (disch := first | omega | (simp only [LR] <;> omega) | fail) only [push_cast, simprocAttr, -Nat.reduceSubDiff]))
      refine callC d1 ?_
      (simp -dsimp (disch := first | omega | (simp only [LR] <;> omega) | fail) only [push_cast, simprocAttr, -Nat.reduceSubDiff]) <;> (repeat (refine (aw_draw (by kernel_rfl)).2 ?_; simp -dsimp (disch := first | omega | (simp only [LR] <;> omega) | fail) only [push_cast, simprocAttr, -Nat.reduceSubDiff]))
      refine callC d2 ?_
      (simp -dsimp (disch := first | omega | (simp only [LR] <;> omega) | fail) only [push_cast, simprocAttr, -Nat.reduceSubDiff]) <;> (repeat (refine (aw_draw (by kernel_rfl)).2 ?_; simp -dsimp (disch := first | omega | (simp only [LR] <;> omega) | fail) only [push_cast, simprocAttr, -Nat.reduceSubDiff]))
      refine callC (implSum z s.w (by omega)) ?_
      (simp -dsimp (disch := first | omega | (simp only [ps, LR] <;> omega) | fail) only [push_cast, ps, simprocAttr, -Nat.reduceSubDiff]) <;> (repeat (refine (aw_draw (by kernel_rfl)).2 ?_; simp -dsimp (disch := first | omega | (simp only [ps, LR] <;> omega) | fail) only [push_cast, ps, simprocAttr, -Nat.reduceSubDiff]))
      refine callC (wStore x po) ?_
      clear d1 d2
      (simp -dsimp (disch := first | omega | (simp only [LR] <;> omega) | fail) only [push_cast, simprocAttr, -Nat.reduceSubDiff]) <;> (repeat (refine (aw_draw (by kernel_rfl)).2 ?_; simp -dsimp (disch := first | omega | (simp only [LR] <;> omega) | fail) only [push_cast, simprocAttr, -Nat.reduceSubDiff]))
      refine callC (specNeeded s g2) ?_
      (simp -dsimp (disch := first | omega | (simp only [fin, LR] <;> omega) | fail) only [push_cast, fin, simprocAttr, -Nat.reduceSubDiff]) <;> (repeat (refine (aw_draw (by kernel_rfl)).2 ?_; simp -dsimp (disch := first | omega | (simp only [fin, LR] <;> omega) | fail) only [push_cast, fin, simprocAttr, -Nat.reduceSubDiff]))
      refine loop_ind (α := Nat) (fun k => k ≤ s.I.length)
        (fun k => ⟨[(1, .sl false 1 (m.map numR)), (5, .pt 1 0 0), (6, .sc (.int .i64 i)), (8, .sc (.string t)), (10, .pt 4 0 0), (18, .ow 7 0 (needL s).length), (19, .sc (.int .i64 k))],
          [(1, .bx [.sc (.int .i64 s.w), .sc (.int .i64 s.r), .ow 2 0 s.I.length, .ow 3 0 s.P.length]), (2, .ar 2 0 (s.I.map (itemC true))), (3, .ar 1 0 (s.P.map strR)),
            (4, .bx [.sc (.int .i64 x.w), .sc (.int .i64 x.r), .ow 5 0 x.I.length, .ow 6 0 x.P.length]), (5, .ar 2 0 (x.I.map (itemC true))), (6, .ar 1 0 (x.P.map strR)), (7, .ar 1 0 ((needL s).map strR))], 8⟩) (fun k => s.I.length - k) 0 (Nat.zero_le _) ?_ ?_
      · simp -dsimp (disch := first | omega | (simp only [LR] <;> omega) | fail) only [push_cast, simprocAttr, -Nat.reduceSubDiff]
      intro j hj ih2
      by_cases hjl : j < s.I.length
      · obtain ⟨u, hu⟩ := ex_get hjl
        have hut : u.t.size ≤ 2097152 := g2.1.2 u (List.mem_of_getElem? hu)
        have dg := specGet x (sumS u.t s.w) 0 po
        have dk : inL (needL s) (sumS u.t s.w) = true → (getF x (sumS u.t s.w) 0).2 = true := fun q => get_there pk.2.1 (by decide) (kp_there pk (List.mem_of_getElem? hu) q)
        have dl := (get_ok (n := sumS u.t s.w) (now := 0) po).1.1
        generalize getF x (sumS u.t s.w) 0 = R at *
        (simp -dsimp (disch := first | omega | (simp only [hjl, hu, LR] <;> omega) | fail) only [push_cast, hjl, hu, simprocAttr, -Nat.reduceSubDiff]) <;> (repeat (refine (aw_draw (by kernel_rfl)).2 ?_; simp -dsimp (disch := first | omega | (simp only [hjl, hu, LR] <;> omega) | fail) only [push_cast, hjl, hu, simprocAttr, -Nat.reduceSubDiff]))
        refine callC (specSum u.t s.w (by omega)) ?_
        (simp -dsimp (disch := first | omega | (simp only [LR] <;> omega) | fail) only [push_cast, simprocAttr, -Nat.reduceSubDiff]) <;> (repeat (refine (aw_draw (by kernel_rfl)).2 ?_; simp -dsimp (disch := first | omega | (simp only [LR] <;> omega) | fail) only [push_cast, simprocAttr, -Nat.reduceSubDiff]))
        refine callC dg ?_
        (simp -dsimp (disch := first | omega | (simp only [LR] <;> omega) | fail) only [push_cast, simprocAttr, -Nat.reduceSubDiff]) <;> (repeat (refine (aw_draw (by kernel_rfl)).2 ?_; simp -dsimp (disch := first | omega | (simp only [LR] <;> omega) | fail) only [push_cast, simprocAttr, -Nat.reduceSubDiff]))
        refine callC (wIn (needL s) (sumS u.t s.w) (by omega)) ?_
        cases hin : inL (needL s) (sumS u.t s.w) with
        | false =>
          (simp -dsimp (disch := first | omega | (simp only [LR] <;> omega) | fail) only [push_cast, simprocAttr, -Nat.reduceSubDiff]) <;> (repeat (refine (aw_draw (by kernel_rfl)).2 ?_; simp -dsimp (disch := first | omega | (simp only [LR] <;> omega) | fail) only [push_cast, simprocAttr, -Nat.reduceSubDiff]))
          refine ih2 (j + 1) _ (by omega) hjl ?_
          simp -dsimp (disch := first | omega | (simp only [wr_id, LR] <;> omega) | fail) only [push_cast, wr_id, simprocAttr, -Nat.reduceSubDiff]
        | true =>
          have dk := dk hin
          (simp -dsimp (disch := first | omega | (simp only [dk, LR] <;> omega) | fail) only [push_cast, dk, simprocAttr, -Nat.reduceSubDiff]) <;> (repeat (refine (aw_draw (by kernel_rfl)).2 ?_; simp -dsimp (disch := first | omega | (simp only [dk, LR] <;> omega) | fail) only [push_cast, dk, simprocAttr, -Nat.reduceSubDiff]))
          refine ih2 (j + 1) _ (by omega) hjl ?_
          simp -dsimp (disch := first | omega | (simp only [wr_id, LR] <;> omega) | fail) only [push_cast, wr_id, simprocAttr, -Nat.reduceSubDiff]
      (simp -dsimp (disch := first | omega | (simp only [hjl, hv, hnv, hev, wr_id, LR] <;> omega) | fail) only [push_cast, hjl, hv, hnv, hev, wr_id, simprocAttr, -Nat.reduceSubDiff]) <;> (repeat (refine (aw_draw (by kernel_rfl)).2 ?_; simp -dsimp (disch := first | omega | (simp only [hjl, hv, hnv, hev, wr_id, LR] <;> omega) | fail) only [push_cast, hjl, hv, hnv, hev, wr_id, simprocAttr, -Nat.reduceSubDiff]))
      refine ih (i + 1, x) _ (by show 24 - (i + 1) < 24 - i; omega) ⟨h1, po, pk.2.1⟩ ?_
      simp -dsimp (disch := first | omega | (simp only [wr_id, LR] <;> omega) | fail) only [push_cast, wr_id, simprocAttr, -Nat.reduceSubDiff]
end Go.Proofs.YtkkmgjhfjhcdmaaGreatDoor.Mx

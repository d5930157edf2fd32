/- A machine over values for Go functions, proved sound, and functions run on it: texts VY, VZ, F34, F41, F42, F43, V10, V14, F14, F16. -/
import Derived.Test.YtkkmgjhfjhcdmaaGreatDoorShB
import Derived.Test.YtkkmgjhfjhcdmaaGreatDoorShC
import Derived.Test.YtkkmgjhfjhcdmaaGreatDoorFetchTickXah
import Derived.Test.YtkkmgjhfjhcdmaaGreatDoorFetchTickXai
import Derived.Test.YtkkmgjhfjhcdmaaGreatDoorFetchTickXaj
import Derived.Test.YtkkmgjhfjhcdmaaGreatDoorFetchTickXak
/- Texts put into stores: pure. -/
namespace Go.Proofs.YtkkmgjhfjhcdmaaGreatDoor.Mx
set_option linter.all false
open Go Go.RowKit
def rmAt {α : Type} (l : List α) (i : Nat) : List α := l.take i ++ l.drop (i + 1)
def insAt {α : Type} (l : List α) (i : Nat) (x : α) : List α := l.take i ++ x :: l.drop i
theorem rmAt_len {α : Type} {l : List α} {i : Nat} (h : i < l.length) : (rmAt l i).length + 1 = l.length := by
  unfold rmAt; rw [List.length_append, List.length_take, List.length_drop]; omega
theorem insAt_len {α : Type} {l : List α} {i : Nat} {x : α} (h : i ≤ l.length) : (insAt l i x).length = l.length + 1 := by
  unfold insAt; rw [List.length_append, List.length_take, List.length_cons, List.length_drop]; omega
noncomputable def needL (s : Store) : List Str := (nmsL s).foldl addS []
def usedAt (I : List Item) (b : Int) : Int := match I[b.toNat]? with | some y => y.u | none => 0
/-- which of the first goes away first -/
def bestF (w : Int) (N : List Str) (I : List Item) : Nat → Int
  | 0 => -1
  | i + 1 => match I[i]? with
    | some x => if inL N (sumS x.t w) = false ∧ (bestF w N I i < 0 ∨ x.u < usedAt I (bestF w N I i)) then i else bestF w N I i
    | none => bestF w N I i
theorem best_rng (w : Int) (N : List Str) (I : List Item) : ∀ i : Nat, -1 ≤ bestF w N I i ∧ bestF w N I i < i ∧ bestF w N I i < I.length
  | 0 => by rw [bestF]; omega
  | i + 1 => by
    have := best_rng w N I i
    rw [bestF]
    split
    · rename_i x hx
      have := (List.getElem?_eq_some_iff.1 hx).1
      split <;> omega
    · omega
def evF (w r : Int) (N : List Str) (sz : Int) (I : List Item) : Option (List Item) :=
  if r < bytes I + sz ∨ 1000 ≤ I.length then
    if 0 ≤ bestF w N I I.length then evF w r N sz (rmAt I (bestF w N I I.length).toNat) else none
  else some I
  termination_by I.length
  decreasing_by
    have h1 := best_rng w N I I.length
    have h2 := rmAt_len (l := I) (i := (bestF w N I I.length).toNat) (by omega)
    omega
def sumsI (w : Int) (I : List Item) : List Str := I.map fun x => sumS x.t w
noncomputable def putF (s : Store) (t : Str) (now : Int) : Store × Int :=
  if (validSt s && inB t.size 1 7000 && inB now 0 1000000) = false then (emS, 1)
  else if 0 ≤ atI s.w (sumS t s.w) s.I then
    if textAt s (sumS t s.w) = t then ({ s with I := s.I.set (atI s.w (sumS t s.w) s.I).toNat ⟨t, now⟩ }, 0) else (emS, 2)
  else match evF s.w s.r (needL s) t.size s.I with
    | none => (emS, 3)
    | some J => ({ s with I := insAt J (rk (sumsI s.w J) (sumS t s.w)) ⟨t, now⟩ }, 0)
theorem bytes_rm {I : List Item} {i : Nat} {x : Item} (h : I[i]? = some x) : bytes (rmAt I i) + x.t.size = bytes I := by
  have h1 := bytes_app (I.take i) (I.drop i)
  rw [List.take_append_drop, drop_step h, bytes] at h1
  unfold rmAt
  rw [bytes_app]
  omega
theorem evF_sub {w r : Int} {N : List Str} {sz : Int} : ∀ {I J : List Item}, evF w r N sz I = some J → J.Sublist I := by
  intro I
  induction hn : I.length using Nat.strongRecOn generalizing I with
  | _ n ih =>
    intro J h
    rw [evF] at h
    split at h
    · split at h
      · have h1 := best_rng w N I I.length
        have h2 := rmAt_len (l := I) (i := (bestF w N I I.length).toNat) (by omega)
        have h3 := ih _ (by omega) rfl h
        refine h3.trans ?_
        unfold rmAt
        conv => rhs; rw [← List.take_append_drop (bestF w N I I.length).toNat I]
        exact (List.Sublist.refl _).append (List.drop_sublist_drop_left _ (Nat.le_succ _))
      · cases h
    · cases h; exact List.Sublist.refl _
theorem evF_fit {w r : Int} {N : List Str} {sz : Int} : ∀ {I J : List Item}, evF w r N sz I = some J → bytes J + sz ≤ r ∧ J.length < 1000 := by
  intro I
  induction hn : I.length using Nat.strongRecOn generalizing I with
  | _ n ih =>
    intro J h
    rw [evF] at h
    split at h
    · split at h
      · have h1 := best_rng w N I I.length
        have h2 := rmAt_len (l := I) (i := (bestF w N I I.length).toNat) (by omega)
        exact ih _ (by omega) rfl h
      · cases h
    · cases h; omega
theorem emS_ok : okStore emS := ⟨⟨Nat.zero_le _, fun a h => by cases h⟩, ⟨Nat.zero_le _, fun a h => by cases h⟩⟩
theorem put_ok {s : Store} {t : Str} {now : Int} (hs : okStore s) (ht : t.size ≤ 2097152) : okStore (putF s t now).1 := by
  unfold putF
  split
  · exact emS_ok
  · split
    · split
      · refine ⟨⟨by rw [List.length_set]; exact hs.1.1, fun a ha => ?_⟩, hs.2⟩
        rcases List.mem_or_eq_of_mem_set ha with h | h
        · exact hs.1.2 a h
        · subst h; exact ht
      · exact emS_ok
    · split
      · exact emS_ok
      · rename_i J hJ
        have h1 := evF_sub hJ
        have h2 := evF_fit hJ
        have h3 := rk_le (sumsI s.w J) (sumS t s.w)
        rw [show (sumsI s.w J).length = J.length by unfold sumsI; rw [List.length_map]] at h3
        refine ⟨⟨by show (insAt _ _ _).length ≤ _; rw [insAt_len h3]; omega, fun a ha => ?_⟩, hs.2⟩
        unfold insAt at ha
        simp only [List.mem_append, List.mem_cons] at ha
        rcases ha with h | h | h
        · exact hs.1.2 a (h1.mem (List.mem_of_mem_take h))
        · subst h; exact ht
        · exact hs.1.2 a (h1.mem (List.mem_of_mem_drop h))
end Go.Proofs.YtkkmgjhfjhcdmaaGreatDoor.Mx

/- Things saved in stores: pure. -/
namespace Go.Proofs.YtkkmgjhfjhcdmaaGreatDoor.Mx
set_option linter.all false
open Go Go.RowKit
noncomputable def putsF (now : Int) : Store → List Str → Store × Int
  | s, [] => (s, 0)
  | s, t :: r => if (putF s t now).2 = 0 then putsF now (putF s t now).1 r else (emS, (putF s t now).2)
def partsL (t : Str) (w : Int) : List Str := formL (descL t w).1 w :: piecesL t
noncomputable def saveF (s : Store) (t : Str) (now : Int) : Store × Int :=
  if (validSt s && decide (t.size ≤ 3000) && inB now 0 1000000) = false then (emS, 1)
  else if (pinS s (nameS t s.w)).2 = 0 then putsF now (pinS s (nameS t s.w)).1 (partsL t s.w) else (emS, (pinS s (nameS t s.w)).2)
theorem sumS_le (t : Str) (w : Int) : (sumS t w).size ≤ 8 := by
  by_cases h : 1 ≤ w ∧ w ≤ 8
  · have := sumS_size (t := t) h.1 h.2; omega
  · unfold sumS; rw [if_neg h]; exact Nat.zero_le _
theorem nameS_le (t : Str) (w : Int) : (nameS t w).size ≤ 8 := by
  unfold nameS
  split
  · exact sumS_le _ _
  · exact Nat.zero_le _
theorem parts_sz {t x : Str} {w : Int} (h : x ∈ partsL t w) : x.size ≤ 7000 := by
  unfold partsL at h
  rcases List.mem_cons.1 h with rfl | h
  · exact formL_len
  · have := pieces_sz h; omega
theorem parts_len (t : Str) (w : Int) : (partsL t w).length ≤ 3002 := by
  have := pieces_len t
  unfold partsL
  rw [List.length_cons]; omega
theorem puts_ok {now : Int} : ∀ {L : List Str} {s : Store}, okStore s → (∀ x ∈ L, x.size ≤ 7000) → okStore (putsF now s L).1
  | [], _, hs, _ => hs
  | t :: r, s, hs, hL => by
    rw [putsF]
    split
    · exact puts_ok (put_ok hs (by have := hL t (by simp); omega)) (fun x hx => hL x (by simp [hx]))
    · exact emS_ok
theorem save_ok {s : Store} {t : Str} {now : Int} (hs : okStore s) : okStore (saveF s t now).1 := by
  unfold saveF
  split
  · exact emS_ok
  · split
    · exact puts_ok (pinS_ok hs (by have := nameS_le t s.w; show _ ≤ _; omega)) (fun x hx => parts_sz hx)
    · exact emS_ok
end Go.Proofs.YtkkmgjhfjhcdmaaGreatDoor.Mx

/- Lists' texts read again: the reference's parts. -/
namespace Go.Proofs.YtkkmgjhfjhcdmaaGreatDoor.Mx
set_option linter.all false
open Go Go.RowKit Go.Proofs
set_option linter.unusedSimpArgs false
theorem byteRow_of {v : Int} (h0 : 0 ≤ v) (h1 : v ≤ 255) : ([.sc (.int .u8 v)] : Row) = byteRow (UInt8.ofNat v.toNat) := by
  unfold byteRow
  rw [UInt8.toNat_ofNat']
  rw [Nat.mod_eq_of_lt (by omega), show ((v.toNat : Nat) : Int) = v by omega]
def E142 : Env := { T := T0, kp := look [(0, [0, 1]), (1, [0, 1]), (2, [0, 1, 5]), (3, [0, 1, 5, 6]), (4, [0, 1, 5, 6, 7]), (5, [0, 1, 5, 6, 7]), (6, [0, 1, 5, 6, 7]), (7, [0, 1, 5, 6, 7]), (8, [0, 1, 5, 7]), (9, [0, 5, 6])] }
attribute [local push_cast] E142
set_option maxHeartbeats 1000000 in
theorem l3Cut (t : Str) (ht : t.size ≤ 100000000) : Does Tryz.prog 142 [.sc (.string t), .sc (.int .u8 10)] (.sl true 1 (((cutL 10 (bt t)).map stB).map strR), []) := by
  refine does_of (E := E142) (rs := [.tmp 4]) (lent := []) tOk rfl Tryz.func142 rfl (by decide) rfl rfl (Nat.le_of_ble_eq_true rfl) (Nat.le_of_ble_eq_true rfl) ?_
  obtain ⟨M, hM⟩ : ∃ M, M = (cutL 10 (bt t)).map stB := ⟨_, rfl⟩
  rw [← hM]
  unfold cutL at hM
  (simp -dsimp (disch := first | omega | (simp only [LR] <;> omega) | fail) only [push_cast, simprocAttr, -Nat.reduceSubDiff]) <;> (repeat (refine (aw_draw (by kernel_rfl)).2 ?_; simp -dsimp (disch := first | omega | (simp only [LR] <;> omega) | fail) only [push_cast, simprocAttr, -Nat.reduceSubDiff]))
  refine loop_ind (α := Nat × Nat × List Str) (fun q => q.1 ≤ t.size ∧ q.2.1 ≤ q.1 ∧ q.2.2.length ≤ q.1 ∧ q.2.2 ++ (cutF 10 [] (curB t q.2.1 q.1) ((bt t).drop q.1)).map stB = M)
    (fun q => ⟨[(0, .sc (.string t)), (1, .sc (.int .u8 10)), (5, .ow 1 0 q.2.2.length), (6, .sc (.int .i64 q.2.1)), (7, .sc (.int .i64 q.1))], [(1, .ar 1 0 (q.2.2.map strR))], 2⟩) (fun q => t.size - q.1) (0, 0, []) ⟨Nat.zero_le _, Nat.le_refl _, Nat.le_refl _, by rw [cur_nil]; simp [hM]⟩ ?_ ?_
  · simp -dsimp (disch := first | omega | (simp only [LR] <;> omega) | fail) only [push_cast, simprocAttr, -Nat.reduceSubDiff]
  rintro ⟨i, a, acc⟩ ⟨hi, ha, hac, hy⟩ ih
  replace hi : i ≤ t.size := hi
  replace ha : a ≤ i := ha
  replace hac : acc.length ≤ i := hac
  replace hy : acc ++ (cutF 10 [] (curB t a i) ((bt t).drop i)).map stB = M := hy
  by_cases h : i < t.size
  · obtain ⟨x, hx⟩ := ex_get (by rw [bt_len]; exact h : i < (bt t).length)
    rw [drop_step hx, cutF] at hy
    have e1 : a + ((i : Int) - (a : Int)).toNat = i := by omega
    have e2 : ((i : Int) - (a : Int)).toNat = i - a := by omega
    have e3 : a + (i - a) = i := by omega
    by_cases e : x = 10
    · rw [if_pos e, cutF_acc] at hy
      subst e
      have hx10 : ((10 : UInt8).toNat : Int) = 10 := rfl
      (simp -dsimp (disch := first | omega | (simp only [hx, hx10, e1, e2, e3, LR] <;> omega) | fail) only [push_cast, hx, hx10, e1, e2, e3, simprocAttr, -Nat.reduceSubDiff]) <;> (repeat (refine (aw_draw (by kernel_rfl)).2 ?_; simp -dsimp (disch := first | omega | (simp only [hx, hx10, e1, e2, e3, LR] <;> omega) | fail) only [push_cast, hx, hx10, e1, e2, e3, simprocAttr, -Nat.reduceSubDiff]))
      refine ih (i + 1, i + 1, acc ++ [t.extract a i]) _ (by show t.size - (i + 1) < t.size - i; omega) ⟨h, Nat.le_refl _, by simp only [List.length_append, List.length_cons, List.length_nil]; omega, by rw [cur_nil, ← hy, ext_cur]; simp⟩ ?_
      simp -dsimp (disch := first | omega | (simp only [wr_id, List.map_append, List.length_append, List.length_cons, List.length_nil, LR] <;> omega) | fail) only [push_cast, wr_id, List.map_append, List.length_append, List.length_cons, List.length_nil, simprocAttr, -Nat.reduceSubDiff]
    · have hxn : ¬ (x.toNat : Int) = 10 := fun q => e (UInt8.toNat_inj.1 (by show x.toNat = 10; omega))
      rw [if_neg e, ← cur_step hx ha] at hy
      (simp -dsimp (disch := first | omega | (simp only [hx, hxn, LR] <;> omega) | fail) only [push_cast, hx, hxn, simprocAttr, -Nat.reduceSubDiff]) <;> (repeat (refine (aw_draw (by kernel_rfl)).2 ?_; simp -dsimp (disch := first | omega | (simp only [hx, hxn, LR] <;> omega) | fail) only [push_cast, hx, hxn, simprocAttr, -Nat.reduceSubDiff]))
      refine ih (i + 1, a, acc) _ (by show t.size - (i + 1) < t.size - i; omega) ⟨h, by show a ≤ i + 1; omega, by show acc.length ≤ i + 1; omega, hy⟩ ?_
      simp -dsimp (disch := first | omega | (simp only [wr_id, LR] <;> omega) | fail) only [push_cast, wr_id, simprocAttr, -Nat.reduceSubDiff]
  · have hi : i = t.size := by omega
    have hd : (bt t).drop i = [] := List.drop_eq_nil_of_le (by rw [bt_len]; omega)
    rw [hd, cutF] at hy
    have e1 : a + ((t.size : Int) - (a : Int)).toNat = t.size := by omega
    have e2 : ((t.size : Int) - (a : Int)).toNat = t.size - a := by omega
    have e3 : a + (t.size - a) = t.size := by omega
    have hy : acc.map strR ++ [[.sc (.string (t.extract a t.size))]] = M.map strR := by rw [← hy, ext_cur, ← hi]; simp [strR]
    (simp -dsimp (disch := first | omega | (simp only [hi, e1, e2, e3, LR] <;> omega) | fail) only [push_cast, hi, e1, e2, e3, simprocAttr, -Nat.reduceSubDiff]) <;> (repeat (refine (aw_draw (by kernel_rfl)).2 ?_; simp -dsimp (disch := first | omega | (simp only [hi, e1, e2, e3, LR] <;> omega) | fail) only [push_cast, hi, e1, e2, e3, simprocAttr, -Nat.reduceSubDiff]))
    rw [hy]
def E175 : Env := { T := T0, kp := look [(0, [0]), (1, [0]), (2, [0]), (3, [0])] }
attribute [local push_cast] E175
theorem l3Digit (b : UInt8) : Does Tryz.prog 175 [.sc (.int .u8 b.toNat)] (.sc (.int .i64 (digI b)), []) := by
  refine does_of (E := E175) (rs := [.tmp 2]) (lent := []) tOk rfl Tryz.func175 rfl (by decide) rfl rfl (Nat.le_of_ble_eq_true rfl) (Nat.le_of_ble_eq_true rfl) ?_
  obtain ⟨M, hM⟩ : ∃ M, M = digI b := ⟨_, rfl⟩
  rw [← hM]
  unfold digI at hM
  have hb := b.toNat_lt
  by_cases h1 : 48 ≤ b.toNat
  rotate_left
  · rw [if_neg (by omega)] at hM
    (simp -dsimp (disch := first | omega | (simp only [h1, wr_id, wr_u8, LR] <;> omega) | fail) only [push_cast, h1, wr_id, wr_u8, simprocAttr, -Nat.reduceSubDiff]) <;> (repeat (refine (aw_draw (by kernel_rfl)).2 ?_; simp -dsimp (disch := first | omega | (simp only [h1, wr_id, wr_u8, LR] <;> omega) | fail) only [push_cast, h1, wr_id, wr_u8, simprocAttr, -Nat.reduceSubDiff]))
    rw [hM]
  by_cases h2 : b.toNat ≤ 57
  rotate_left
  · rw [if_neg (by omega)] at hM
    (simp -dsimp (disch := first | omega | (simp only [h1, h2, wr_id, wr_u8, LR] <;> omega) | fail) only [push_cast, h1, h2, wr_id, wr_u8, simprocAttr, -Nat.reduceSubDiff]) <;> (repeat (refine (aw_draw (by kernel_rfl)).2 ?_; simp -dsimp (disch := first | omega | (simp only [h1, h2, wr_id, wr_u8, LR] <;> omega) | fail) only [push_cast, h1, h2, wr_id, wr_u8, simprocAttr, -Nat.reduceSubDiff]))
    rw [hM]
  rw [if_pos ⟨h1, h2⟩] at hM
  have e : wr .u8 ((b.toNat : Int) - 48) = (b.toNat : Int) - 48 := by rw [wr_u8]; omega
  (simp -dsimp (disch := first | omega | (simp only [h1, h2, e, wr_id, LR] <;> omega) | fail) only [push_cast, h1, h2, e, wr_id, simprocAttr, -Nat.reduceSubDiff]) <;> (repeat (refine (aw_draw (by kernel_rfl)).2 ?_; simp -dsimp (disch := first | omega | (simp only [h1, h2, e, wr_id, LR] <;> omega) | fail) only [push_cast, h1, h2, e, wr_id, simprocAttr, -Nat.reduceSubDiff]))
  rw [hM]
def E143 : Env := { T := T0, kp := look [(0, [0]), (1, [0]), (2, [0, 3]), (3, []), (4, [0, 3]), (5, [0, 3, 4]), (6, [0, 3, 4]), (7, [0, 3, 4]), (8, []), (9, [0, 3, 4]), (10, [0, 3]), (11, []), (12, [3])] }
attribute [local push_cast] E143
set_option maxHeartbeats 1000000 in
theorem l3Number (t : Str) (ht : t.size ≤ 100000000) : Does Tryz.prog 143 [.sc (.string t)] (.sc (.int .i64 (numB (bt t))), []) := by
  refine does_of (E := E143) (rs := [.tmp 2]) (lent := []) tOk rfl Tryz.func143 rfl (by decide) rfl rfl (Nat.le_of_ble_eq_true rfl) (Nat.le_of_ble_eq_true rfl) ?_
  obtain ⟨M, hM⟩ : ∃ M, M = numB (bt t) := ⟨_, rfl⟩
  rw [← hM]
  unfold numB at hM
  rw [bt_len] at hM
  by_cases h1 : t.size < 1
  · rw [if_pos (.inl h1)] at hM
    (simp -dsimp (disch := first | omega | (simp only [h1, LR] <;> omega) | fail) only [push_cast, h1, simprocAttr, -Nat.reduceSubDiff]) <;> (repeat (refine (aw_draw (by kernel_rfl)).2 ?_; simp -dsimp (disch := first | omega | (simp only [h1, LR] <;> omega) | fail) only [push_cast, h1, simprocAttr, -Nat.reduceSubDiff]))
    rw [hM]
  by_cases h2 : 4 < t.size
  · rw [if_pos (.inr h2)] at hM
    (simp -dsimp (disch := first | omega | (simp only [h1, h2, LR] <;> omega) | fail) only [push_cast, h1, h2, simprocAttr, -Nat.reduceSubDiff]) <;> (repeat (refine (aw_draw (by kernel_rfl)).2 ?_; simp -dsimp (disch := first | omega | (simp only [h1, h2, LR] <;> omega) | fail) only [push_cast, h1, h2, simprocAttr, -Nat.reduceSubDiff]))
    rw [hM]
  rw [if_neg (by omega)] at hM
  (simp -dsimp (disch := first | omega | (simp only [h1, h2, LR] <;> omega) | fail) only [push_cast, h1, h2, simprocAttr, -Nat.reduceSubDiff]) <;> (repeat (refine (aw_draw (by kernel_rfl)).2 ?_; simp -dsimp (disch := first | omega | (simp only [h1, h2, LR] <;> omega) | fail) only [push_cast, h1, h2, simprocAttr, -Nat.reduceSubDiff]))
  refine loop_ind (α := Nat × Nat) (fun q => q.1 ≤ t.size ∧ q.2 + 1 ≤ 10 ^ q.1 ∧ Lib.decFrom q.2 ((bt t).drop q.1) = Lib.decFrom 0 (bt t))
    (fun q => ⟨[(0, .sc (.string t)), (3, .sc (.int .i64 q.2)), (4, .sc (.int .i64 q.1))], [], 1⟩) (fun q => t.size - q.1) (0, 0) ⟨Nat.zero_le _, by simp, rfl⟩ ?_ ?_
  · simp -dsimp (disch := first | omega | (simp only [LR] <;> omega) | fail) only [push_cast, simprocAttr, -Nat.reduceSubDiff]
  rintro ⟨i, n⟩ ⟨hi, hn, hy⟩ ih
  replace hi : i ≤ t.size := hi
  replace hn : n + 1 ≤ 10 ^ i := hn
  replace hy : Lib.decFrom n ((bt t).drop i) = Lib.decFrom 0 (bt t) := hy
  have hn4 : n ≤ 10000 := by
    have : 10 ^ i ≤ 10 ^ 4 := Nat.pow_le_pow_right (by omega) (by omega)
    omega
  by_cases h : i < t.size
  · obtain ⟨x, hx⟩ := ex_get (by rw [bt_len]; exact h : i < (bt t).length)
    have hb := x.toNat_lt
    rw [drop_step hx, Lib.decFrom, Lib.digitVal] at hy
    have bad : ¬ (48 ≤ x.toNat ∧ x.toNat ≤ 57) → M = -1 := fun hc => by
      rw [if_neg hc] at hy
      rw [hM, ← hy]
    by_cases a1 : 48 ≤ x.toNat
    rotate_left
    · have hM := bad (by omega)
      (simp -dsimp (disch := first | omega | (simp only [hx, a1, hM, LR] <;> omega) | fail) only [push_cast, hx, a1, hM, simprocAttr, -Nat.reduceSubDiff]) <;> (repeat (refine (aw_draw (by kernel_rfl)).2 ?_; simp -dsimp (disch := first | omega | (simp only [hx, a1, hM, LR] <;> omega) | fail) only [push_cast, hx, a1, hM, simprocAttr, -Nat.reduceSubDiff]))
    by_cases a2 : x.toNat ≤ 57
    rotate_left
    · have hM := bad (by omega)
      (simp -dsimp (disch := first | omega | (simp only [hx, a1, a2, hM, LR] <;> omega) | fail) only [push_cast, hx, a1, a2, hM, simprocAttr, -Nat.reduceSubDiff]) <;> (repeat (refine (aw_draw (by kernel_rfl)).2 ?_; simp -dsimp (disch := first | omega | (simp only [hx, a1, a2, hM, LR] <;> omega) | fail) only [push_cast, hx, a1, a2, hM, simprocAttr, -Nat.reduceSubDiff]))
    rw [if_pos ⟨a1, a2⟩] at hy
    simp only at hy
    have e : wr .u8 ((x.toNat : Int) - 48) = (x.toNat : Int) - 48 := by rw [wr_u8]; omega
    have e2 : ((x.toNat : Int) - 48) = ((x.toNat - 48 : Nat) : Int) := by omega
    obtain ⟨d, hd⟩ : ∃ d, d = x.toNat - 48 := ⟨_, rfl⟩
    rw [← hd] at e2 hy
    have hd9 : d ≤ 9 := by omega
    rw [e2] at e
    clear hd
    (simp -dsimp (disch := first | omega | (simp only [hx, a1, a2, e2, wr_id, LR] <;> omega) | fail) only [push_cast, hx, a1, a2, e2, wr_id, simprocAttr, -Nat.reduceSubDiff]) <;> (repeat (refine (aw_draw (by kernel_rfl)).2 ?_; simp -dsimp (disch := first | omega | (simp only [hx, a1, a2, e2, wr_id, LR] <;> omega) | fail) only [push_cast, hx, a1, a2, e2, wr_id, simprocAttr, -Nat.reduceSubDiff]))
    refine ih (i + 1, n * 10 + d) _ (by show t.size - (i + 1) < t.size - i; omega) ⟨h, by show n * 10 + d + 1 ≤ 10 ^ (i + 1); rw [Nat.pow_succ]; omega, hy⟩ ?_
    simp -dsimp (disch := first | omega | (simp only [wr_id, e, e2, LR] <;> omega) | fail) only [push_cast, wr_id, e, e2, simprocAttr, -Nat.reduceSubDiff]
  · have hi : i = t.size := by omega
    have hd : (bt t).drop i = [] := List.drop_eq_nil_of_le (by rw [bt_len]; omega)
    rw [hd, Lib.decFrom] at hy
    rw [← hy] at hM
    simp only at hM
    (simp -dsimp (disch := first | omega | (simp only [h, LR] <;> omega) | fail) only [push_cast, h, simprocAttr, -Nat.reduceSubDiff]) <;> (repeat (refine (aw_draw (by kernel_rfl)).2 ?_; simp -dsimp (disch := first | omega | (simp only [h, LR] <;> omega) | fail) only [push_cast, h, simprocAttr, -Nat.reduceSubDiff]))
    refine callC (l3Dec n (by omega)) ?_
    by_cases e : Lib.decDigits n = bt t
    · rw [if_pos e] at hM
      have e2 : stB (Lib.decDigits n) = t := by rw [e, stB_bt]
      (simp -dsimp (disch := first | omega | (simp only [e2, LR] <;> omega) | fail) only [push_cast, e2, simprocAttr, -Nat.reduceSubDiff]) <;> (repeat (refine (aw_draw (by kernel_rfl)).2 ?_; simp -dsimp (disch := first | omega | (simp only [e2, LR] <;> omega) | fail) only [push_cast, e2, simprocAttr, -Nat.reduceSubDiff]))
      rw [hM]
    · rw [if_neg e] at hM
      have e2 : ¬ stB (Lib.decDigits n) = t := fun q => e (by rw [← q, bt_stB])
      (simp -dsimp (disch := first | omega | (simp only [e2, LR] <;> omega) | fail) only [push_cast, e2, simprocAttr, -Nat.reduceSubDiff]) <;> (repeat (refine (aw_draw (by kernel_rfl)).2 ?_; simp -dsimp (disch := first | omega | (simp only [e2, LR] <;> omega) | fail) only [push_cast, e2, simprocAttr, -Nat.reduceSubDiff]))
      rw [hM]
end Go.Proofs.YtkkmgjhfjhcdmaaGreatDoor.Mx

/- Lists' texts read again: the reference. -/
namespace Go.Proofs.YtkkmgjhfjhcdmaaGreatDoor.Mx
set_option linter.all false
open Go Go.RowKit Go.Proofs
set_option linter.unusedSimpArgs false
theorem digI_r (b : UInt8) : -87 ≤ digI b ∧ digI b ≤ 255 := by
  unfold digI
  have := b.toNat_lt
  split <;> omega
def E144 : Env := { T := T0, kp := look [(0, [0]), (1, [0]), (2, [0, 3]), (3, [0, 3, 4]), (4, [0, 3, 4]), (5, [0, 3, 4]), (6, [3])], dp := look2 [(5, [[], [], [], [1, 2], [1, 2, 3], [1, 2, 3, 4], [], [], [7], [6, 7, 8], [1, 2, 3, 4, 6, 7, 8, 9], [1, 2, 3, 4, 5, 6, 7, 8, 9, 10], [1, 2, 3, 4, 5, 6, 7, 8, 9, 10, 11], [1, 2, 3, 4, 5, 6, 7, 8, 9, 10, 11, 12], [0, 1, 2, 3, 4, 5, 6, 7, 8, 9, 10, 11, 12, 13], [0, 1, 2, 3, 4, 5, 6, 7, 8, 9, 10, 11, 12, 13, 14]])] }
attribute [local push_cast] E144
set_option maxRecDepth 20000 in
set_option maxHeartbeats 1000000 in
theorem l3Bytes (t : Str) (ht : t.size ≤ 100000000) : Does Tryz.prog 144 [.sc (.string t)] (.sc (.string (stB (unhex (bt t)))), []) := by
  refine does_of (E := E144) (rs := [.tmp 2]) (lent := []) tOk rfl Tryz.func144 rfl (by decide) rfl rfl (Nat.le_of_ble_eq_true rfl) (Nat.le_of_ble_eq_true rfl) ?_
  obtain ⟨M, hM⟩ : ∃ M, M = unhex (bt t) := ⟨_, rfl⟩
  rw [← hM]
  (simp -dsimp (disch := first | omega | (simp only [LR] <;> omega) | fail) only [push_cast, simprocAttr, -Nat.reduceSubDiff]) <;> (repeat (refine (aw_draw (by kernel_rfl)).2 ?_; simp -dsimp (disch := first | omega | (simp only [LR] <;> omega) | fail) only [push_cast, simprocAttr, -Nat.reduceSubDiff]))
  refine loop_ind (α := Nat × List UInt8) (fun q => q.1 ≤ t.size ∧ q.2.length ≤ q.1 ∧ q.2 ++ unhex ((bt t).drop q.1) = M)
    (fun q => ⟨[(0, .sc (.string t)), (3, .ow 1 0 q.2.length), (4, .sc (.int .i64 q.1))], [(1, .ar 1 0 (q.2.map byteRow))], 2⟩) (fun q => t.size - q.1) (0, []) ⟨Nat.zero_le _, Nat.le_refl _, by simp [hM]⟩ ?_ ?_
  · simp -dsimp (disch := first | omega | (simp only [LR] <;> omega) | fail) only [push_cast, simprocAttr, -Nat.reduceSubDiff]
  rintro ⟨i, B⟩ ⟨hi, hB, hy⟩ ih
  replace hi : i ≤ t.size := hi
  replace hB : B.length ≤ i := hB
  replace hy : B ++ unhex ((bt t).drop i) = M := hy
  by_cases h : i + 1 < t.size
  · obtain ⟨x, hx⟩ := ex_get (by rw [bt_len]; omega : i < (bt t).length)
    obtain ⟨y, hz⟩ := ex_get (by rw [bt_len]; exact h : i + 1 < (bt t).length)
    rw [drop_step hx, drop_step hz, unhex] at hy
    have rx := digI_r x
    have ry := digI_r y
    have e1 : ((i : Int) + 1).toNat = i + 1 := by omega
    have e4 := byteRow_of (v := (16 * digI x + digI y) % 256) (by omega) (by omega)
    have e6 : (i : Int) + 1 + 1 = i + 2 := by omega
    have e5 : wr .u8 (16 * digI x + digI y) = (16 * digI x + digI y) % 256 := wr_u8 _
    (simp -dsimp (disch := first | omega | (simp only [h, hx, hz, e1, wr_id, LR] <;> omega) | fail) only [push_cast, h, hx, hz, e1, wr_id, simprocAttr, -Nat.reduceSubDiff]) <;> (repeat (refine (aw_draw (by kernel_rfl)).2 ?_; simp -dsimp (disch := first | omega | (simp only [h, hx, hz, e1, wr_id, LR] <;> omega) | fail) only [push_cast, h, hx, hz, e1, wr_id, simprocAttr, -Nat.reduceSubDiff]))
    refine callC (l3Digit x) ?_
    (simp -dsimp (disch := first | omega | (simp only [h, hx, hz, e1, wr_id, LR] <;> omega) | fail) only [push_cast, h, hx, hz, e1, wr_id, simprocAttr, -Nat.reduceSubDiff]) <;> (repeat (refine (aw_draw (by kernel_rfl)).2 ?_; simp -dsimp (disch := first | omega | (simp only [h, hx, hz, e1, wr_id, LR] <;> omega) | fail) only [push_cast, h, hx, hz, e1, wr_id, simprocAttr, -Nat.reduceSubDiff]))
    refine callC (l3Digit y) ?_
    (simp -dsimp (disch := first | omega | (simp only [h, hx, hz, e1, e5, wr_id, LR] <;> omega) | fail) only [push_cast, h, hx, hz, e1, e5, wr_id, simprocAttr, -Nat.reduceSubDiff]) <;> (repeat (refine (aw_draw (by kernel_rfl)).2 ?_; simp -dsimp (disch := first | omega | (simp only [h, hx, hz, e1, e5, wr_id, LR] <;> omega) | fail) only [push_cast, h, hx, hz, e1, e5, wr_id, simprocAttr, -Nat.reduceSubDiff]))
    refine ih (i + 2, B ++ [UInt8.ofNat ((16 * digI x + digI y) % 256).toNat]) _ (by show t.size - (i + 2) < t.size - i; omega) ⟨by show i + 2 ≤ t.size; omega, by simp only [List.length_append, List.length_cons, List.length_nil]; omega, by rw [← hy]; simp⟩ ?_
    simp -dsimp (disch := first | omega | (simp only [wr_id, List.map_append, List.length_append, List.length_cons, List.length_nil, List.map_cons, List.map_nil, ← e4, e6, LR] <;> omega) | fail) only [push_cast, wr_id, List.map_append, List.length_append, List.length_cons, List.length_nil, List.map_cons, List.map_nil, ← e4, e6, simprocAttr, -Nat.reduceSubDiff]
  · have hd : unhex ((bt t).drop i) = [] := by
      have hl : ((bt t).drop i).length ≤ 1 := by rw [List.length_drop, bt_len]; omega
      match (bt t).drop i, hl with
      | [], _ => rfl
      | [_], _ => rfl
      | _ :: _ :: _, hl => simp at hl
    rw [hd, List.append_nil] at hy
    subst hy
    (simp -dsimp (disch := first | omega | (simp only [h, wr_id, LR] <;> omega) | fail) only [push_cast, h, wr_id, simprocAttr, -Nat.reduceSubDiff]) <;> (repeat (refine (aw_draw (by kernel_rfl)).2 ?_; simp -dsimp (disch := first | omega | (simp only [h, wr_id, LR] <;> omega) | fail) only [push_cast, h, wr_id, simprocAttr, -Nat.reduceSubDiff]))
    rfl
theorem cut_head {c : UInt8} : ∀ (r cur : List UInt8), ∃ q L, cutF c [] cur r = (cur ++ q) :: L
  | [], cur => ⟨[], [], by simp [cutF]⟩
  | x :: r, cur => by
    rw [cutF]
    split
    · exact ⟨[], cutF c [] [] r, by rw [cutF_acc]; simp⟩
    · obtain ⟨q, L, h⟩ := cut_head r (cur ++ [x])
      exact ⟨x :: q, L, by rw [h]; simp⟩
theorem cut_size {s : List UInt8} (h : s.take 5 = sizB) : ∃ q L, cutL 10 s = (sizB ++ q) :: L := by
  have e : s = sizB ++ s.drop 5 := by rw [← h, List.take_append_drop]
  unfold cutL
  rw [e, cutF_skip (by decide), List.nil_append]
  exact cut_head _ _
theorem sizS_iff {t : Str} (h : 6 ≤ t.size) : t.extract 0 5 = ⟨#[115, 105, 122, 101, 32]⟩ ↔ (bt t).take 5 = sizB := by
  rw [ext_cur, show curB t 0 5 = (bt t).take 5 by unfold curB; rw [List.drop_zero]]
  have e : (⟨#[115, 105, 122, 101, 32]⟩ : ByteArray) = stB sizB := rfl
  rw [e]
  exact ⟨fun q => by have := congrArg bt q; rwa [bt_stB, bt_stB] at this, fun q => by rw [q]⟩
def E102 : Env := { T := T0, kp := look [(0, [0, 1]), (1, [0, 1, 4]), (2, [4]), (3, [0, 1, 4]), (4, [0, 1, 4, 6]), (5, [0, 1, 4, 6, 7]), (6, [0, 1, 4, 6, 7, 8]), (7, [0, 1, 4, 6, 7, 8]), (8, [0, 1, 4, 6, 7, 8]), (9, [0, 1, 4, 7]), (10, [4]), (11, [4, 7])], dp := look2 [(8, [[], [0], [], [], [2, 3], [2, 3, 4], [2, 3, 4, 5], [2, 3, 4, 5, 6], [0, 1, 2, 3, 4, 5, 6, 7], [0, 1, 2, 3, 4, 5, 6, 7, 8], [0, 1, 2, 3, 4, 5, 6, 7, 8, 9]])] }
attribute [local push_cast] E102
set_option maxRecDepth 20000 in
set_option maxHeartbeats 1000000 in
theorem specReadList (t : Str) (w : Int) (ht : t.size ≤ 100000000) : Does Tryz.prog 102 [.sc (.string t), .sc (.int .i64 w)] (.tu [.ag (lstC true (readL t w).1), .sc (.bool (readL t w).2)], []) := by
  refine does_of (E := E102) (rs := [.cell 4 96, .tmp 5]) (lent := []) tOk rfl Tryz.func102 rfl (by decide) rfl rfl (Nat.le_of_ble_eq_true rfl) (Nat.le_of_ble_eq_true rfl) ?_
  obtain ⟨M, hM⟩ : ∃ M, M = readL t w := ⟨_, rfl⟩
  rw [← hM]
  by_cases h1 : t.size < 6
  · rw [read_out (.inl h1)] at hM
    subst hM
    (simp -dsimp (disch := first | omega | (simp only [h1, LR] <;> omega) | fail) only [push_cast, h1, simprocAttr, -Nat.reduceSubDiff]) <;> (repeat (refine (aw_draw (by kernel_rfl)).2 ?_; simp -dsimp (disch := first | omega | (simp only [h1, LR] <;> omega) | fail) only [push_cast, h1, simprocAttr, -Nat.reduceSubDiff]))
  by_cases h2 : 7000 < t.size
  · rw [read_out (.inr (.inl h2))] at hM
    subst hM
    (simp -dsimp (disch := first | omega | (simp only [h1, h2, LR] <;> omega) | fail) only [push_cast, h1, h2, simprocAttr, -Nat.reduceSubDiff]) <;> (repeat (refine (aw_draw (by kernel_rfl)).2 ?_; simp -dsimp (disch := first | omega | (simp only [h1, h2, LR] <;> omega) | fail) only [push_cast, h1, h2, simprocAttr, -Nat.reduceSubDiff]))
  have hsz := sizS_iff (t := t) (by omega)
  by_cases h3 : t.extract 0 5 = ⟨#[115, 105, 122, 101, 32]⟩
  rotate_left
  · rw [read_out (.inr (.inr fun q => h3 (hsz.2 q)))] at hM
    subst hM
    (simp -dsimp (disch := first | omega | (simp only [h1, h2, h3, LR] <;> omega) | fail) only [push_cast, h1, h2, h3, simprocAttr, -Nat.reduceSubDiff]) <;> (repeat (refine (aw_draw (by kernel_rfl)).2 ?_; simp -dsimp (disch := first | omega | (simp only [h1, h2, h3, LR] <;> omega) | fail) only [push_cast, h1, h2, h3, simprocAttr, -Nat.reduceSubDiff]))
  obtain ⟨q, L, hc⟩ := cut_size (hsz.1 h3)
  rw [read_spec (by omega)] at hM
  obtain ⟨P, hP⟩ : ∃ P, P = parseL t := ⟨_, rfl⟩
  rw [← hP] at hM
  unfold parseL at hP
  have hLn := cutF_len 10 (bt t) [] []
  have hLs := cutF_sz 10 (bt t) [] [] t.size (by simp) (by rw [bt_len]; simp)
  rw [show cutF 10 [] [] (bt t) = cutL 10 (bt t) from rfl, hc] at hLn hLs
  rw [bt_len, List.length_cons, List.length_nil] at hLn
  rw [hc] at hP
  have hP : P = ⟨numB q, (L.take (L.length - 1)).map fun x => stB (unhex x)⟩ := by
    rw [hP]
    have e1 : ((((sizB ++ q) :: L).getD 0 []).drop 5) = q := List.drop_left' rfl
    rw [e1]
    simp
  have hq0 := hLs _ (List.mem_cons_self ..)
  have hq5 : (sizB ++ q).length = 5 + q.length := by rw [List.length_append]; rfl
  (simp -dsimp (disch := first | omega | (simp only [h1, h2, h3, LR] <;> omega) | fail) only [push_cast, h1, h2, h3, simprocAttr, -Nat.reduceSubDiff]) <;> (repeat (refine (aw_draw (by kernel_rfl)).2 ?_; simp -dsimp (disch := first | omega | (simp only [h1, h2, h3, LR] <;> omega) | fail) only [push_cast, h1, h2, h3, simprocAttr, -Nat.reduceSubDiff]))
  refine callC (l3Cut t ht) ?_
  rw [hc]
  have hx5 : (stB (sizB ++ q)).size = 5 + q.length := by rw [stB_size, hq5]
  have hxe : (stB (sizB ++ q)).extract 5 (5 + q.length) = stB q := by
    rw [ext_cur]
    unfold curB
    rw [bt_stB, List.take_of_length_le (by omega), show (sizB ++ q).drop 5 = q from List.drop_left' rfl]
  have hxi : 5 + ((5 : Int) + (q.length : Int) - 5).toNat = 5 + q.length := by omega
  (simp -dsimp (disch := first | omega | (simp only [hx5, hxe, hxi, LR] <;> omega) | fail) only [push_cast, hx5, hxe, hxi, simprocAttr, -Nat.reduceSubDiff]) <;> (repeat (refine (aw_draw (by kernel_rfl)).2 ?_; simp -dsimp (disch := first | omega | (simp only [hx5, hxe, hxi, LR] <;> omega) | fail) only [push_cast, hx5, hxe, hxi, simprocAttr, -Nat.reduceSubDiff]))
  refine callC (l3Number (stB q) (by rw [stB_size]; omega)) ?_
  rw [bt_stB]
  (simp -dsimp (disch := first | omega | (simp only [hx5, hxe, hxi, LR] <;> omega) | fail) only [push_cast, hx5, hxe, hxi, simprocAttr, -Nat.reduceSubDiff]) <;> (repeat (refine (aw_draw (by kernel_rfl)).2 ?_; simp -dsimp (disch := first | omega | (simp only [hx5, hxe, hxi, LR] <;> omega) | fail) only [push_cast, hx5, hxe, hxi, simprocAttr, -Nat.reduceSubDiff]))
  refine loop_ind (α := Nat) (fun j => j ≤ L.length - 1)
    (fun j => ⟨[(0, .sc (.string t)), (1, .sc (.int .i64 w)), (4, .pt 1 0 0), (6, .ow 3 0 (L.length + 1)), (7, .pt 4 0 0), (8, .sc (.int .i64 (j + 1)))],
      [(1, .bx [.sc (.int .i64 0), .ow 2 0 0]), (2, .ar 1 0 []), (3, .ar 1 0 (strR (stB (sizB ++ q)) :: (L.map stB).map strR)), (4, .bx [.sc (.int .i64 (numB q)), .ow 5 0 ((L.take j).map fun x => stB (unhex x)).length]), (5, .ar 1 0 (((L.take j).map fun x => stB (unhex x)).map strR))], 6⟩) (fun j => L.length - j) 0 (Nat.zero_le _) ?_ ?_
  · simp -dsimp (disch := first | omega | (simp only [List.take_zero, List.map_nil, LR] <;> omega) | fail) only [push_cast, List.take_zero, List.map_nil, simprocAttr, -Nat.reduceSubDiff]
  intro j hj ih
  have hjl : ((L.take j).map fun x => stB (unhex x)).length = j := by rw [List.length_map, List.length_take]; omega
  by_cases h : j + 1 < L.length
  · obtain ⟨x, hx⟩ := ex_get (show j < L.length by omega)
    have hxs := hLs x (List.mem_cons_of_mem _ (List.mem_of_getElem? hx))
    have hst : ((L.take (j + 1)).map fun x => stB (unhex x)) = ((L.take j).map fun x => stB (unhex x)) ++ [stB (unhex x)] := by rw [take_step hx, List.map_append]; rfl
    have e1 : ((j : Int) + 1).toNat = j + 1 := by omega
    obtain ⟨D, hD⟩ : ∃ D, D = ((L.take j).map fun x => stB (unhex x)) := ⟨_, rfl⟩
    rw [← hD] at hjl hst ⊢
    (simp -dsimp (disch := first | omega | (simp only [h, hx, e1, wr_id, LR] <;> omega) | fail) only [push_cast, h, hx, e1, wr_id, simprocAttr, -Nat.reduceSubDiff]) <;> (repeat (refine (aw_draw (by kernel_rfl)).2 ?_; simp -dsimp (disch := first | omega | (simp only [h, hx, e1, wr_id, LR] <;> omega) | fail) only [push_cast, h, hx, e1, wr_id, simprocAttr, -Nat.reduceSubDiff]))
    refine callC (l3Bytes (stB x) (by rw [stB_size]; omega)) ?_
    rw [bt_stB]
    (simp -dsimp (disch := first | omega | (simp only [h, hx, e1, wr_id, LR] <;> omega) | fail) only [push_cast, h, hx, e1, wr_id, simprocAttr, -Nat.reduceSubDiff]) <;> (repeat (refine (aw_draw (by kernel_rfl)).2 ?_; simp -dsimp (disch := first | omega | (simp only [h, hx, e1, wr_id, LR] <;> omega) | fail) only [push_cast, h, hx, e1, wr_id, simprocAttr, -Nat.reduceSubDiff]))
    refine ih (j + 1) _ (by omega) (by omega) ?_
    rw [hst]
    simp -dsimp (disch := first | omega | (simp only [wr_id, List.map_append, List.length_append, List.length_cons, List.length_nil, List.map_cons, List.map_nil, LR] <;> omega) | fail) only [push_cast, wr_id, List.map_append, List.length_append, List.length_cons, List.length_nil, List.map_cons, List.map_nil, simprocAttr, -Nat.reduceSubDiff]
  · have hj : j = L.length - 1 := by omega
    have hPj : P = ⟨numB q, (L.take j).map fun x => stB (unhex x)⟩ := by rw [hP, hj]
    have hPS : ((L.take j).map fun x => stB (unhex x)) = P.S := by rw [hPj]
    have hPz : numB q = P.sz := by rw [hPj]
    rw [hPS, hPz]
    rw [hPS] at hjl
    (simp -dsimp (disch := first | omega | (simp only [h, wr_id, LR] <;> omega) | fail) only [push_cast, h, wr_id, simprocAttr, -Nat.reduceSubDiff]) <;> (repeat (refine (aw_draw (by kernel_rfl)).2 ?_; simp -dsimp (disch := first | omega | (simp only [h, wr_id, LR] <;> omega) | fail) only [push_cast, h, wr_id, simprocAttr, -Nat.reduceSubDiff]))
    refine callC (specFormList P w (by omega)) ?_
    by_cases e : formL P w = t
    · rw [if_pos e] at hM
      subst hM
      (simp -dsimp (disch := first | omega | (simp only [e, LR] <;> omega) | fail) only [push_cast, e, simprocAttr, -Nat.reduceSubDiff]) <;> (repeat (refine (aw_draw (by kernel_rfl)).2 ?_; simp -dsimp (disch := first | omega | (simp only [e, LR] <;> omega) | fail) only [push_cast, e, simprocAttr, -Nat.reduceSubDiff]))
    · rw [if_neg e] at hM
      subst hM
      (simp -dsimp (disch := first | omega | (simp only [e, LR] <;> omega) | fail) only [push_cast, e, simprocAttr, -Nat.reduceSubDiff]) <;> (repeat (refine (aw_draw (by kernel_rfl)).2 ?_; simp -dsimp (disch := first | omega | (simp only [e, LR] <;> omega) | fail) only [push_cast, e, simprocAttr, -Nat.reduceSubDiff]))
end Go.Proofs.YtkkmgjhfjhcdmaaGreatDoor.Mx

/- Lists' texts read again: the program. -/
namespace Go.Proofs.YtkkmgjhfjhcdmaaGreatDoor.Mx
set_option linter.all false
open Go Go.RowKit Go.Proofs
set_option linter.unusedSimpArgs false
theorem pre_of {s p : List UInt8} (h : Lib.hasPrefix s p = true) : ∃ q, s = p ++ q ∧ Lib.trimPrefix s p = q := by
  unfold Lib.trimPrefix
  rw [if_pos h]
  obtain ⟨q, hq⟩ := List.isPrefixOf_iff_prefix.1 h
  exact ⟨q, hq.symm, by rw [← hq, List.drop_left' rfl]⟩
theorem pre_app {p q : List UInt8} : Lib.hasPrefix (p ++ q) p = true ∧ Lib.trimPrefix (p ++ q) p = q := by
  have h : Lib.hasPrefix (p ++ q) p = true := List.isPrefixOf_iff_prefix.2 ⟨q, rfl⟩
  refine ⟨h, ?_⟩
  unfold Lib.trimPrefix
  rw [if_pos h, List.drop_left' rfl]
theorem v_fin : ∀ d : _root_.Fin 16, Lib.Hx.v (Lib.Hx.digit d.val) = d.val := by decide +kernel
theorem hex_at {S : List Str} {L : List (List UInt8)} {m : Nat} (h : L = hexL S ++ [[]]) (hm : L.length = m + 1) : S.length = m ∧ ∀ j x, j < m → L[j]? = some x → ∃ s, S[j]? = some s ∧ x = Lib.Hx.encode (bt s) := by
  have hl : S.length = m := by
    rw [h, List.length_append, hexL, List.length_map] at hm
    simpa using hm
  refine ⟨hl, fun j x hj hx => ?_⟩
  have hh : (hexL S).length = S.length := by unfold hexL; rw [List.length_map]
  rw [h, List.getElem?_append_left (by omega)] at hx
  unfold hexL at hx
  rw [List.getElem?_map] at hx
  cases hs : S[j]? with
  | none => rw [hs] at hx; cases hx
  | some s => rw [hs] at hx; cases hx; exact ⟨s, rfl, rfl⟩
theorem dec_enc : ∀ l : List UInt8, Lib.Hx.decode (Lib.Hx.encode l) = (l, .ok)
  | [] => by rw [show Lib.Hx.encode [] = [] from rfl, Lib.Hx.decode_nil]
  | b :: r => by
    have hb : b.toNat < 256 := b.toNat_lt
    have h1 := v_fin ⟨b.toNat / 16, by omega⟩
    have h2 := v_fin ⟨b.toNat % 16, by omega⟩
    simp only at h1 h2
    rw [show Lib.Hx.encode (b :: r) = Lib.Hx.digit (b.toNat / 16) :: Lib.Hx.digit (b.toNat % 16) :: Lib.Hx.encode r from rfl, Lib.Hx.decode_two, h1, h2, if_neg (by omega), if_neg (by omega), dec_enc r]
    have : b.toNat / 16 * 16 + b.toNat % 16 = b.toNat := by omega
    rw [this]
    simp
theorem decL_hex {S : List Str} : (hexL S).map (fun x => stB (Lib.Hx.decode x).1) = S := by
  unfold hexL
  rw [List.map_map]
  conv => rhs; rw [← List.map_id S]
  apply List.map_congr_left
  intro x _
  show stB (Lib.Hx.decode (Lib.Hx.encode (bt x))).1 = x
  rw [dec_enc, stB_bt]
def E100 : Env := { T := T0, kp := look [(0, [0, 1]), (1, [0, 1, 4]), (2, [0, 1, 4, 6]), (3, [0, 1, 4, 6, 7, 8]), (4, [4]), (5, [0, 1, 4, 6, 7]), (6, [0, 1, 4, 6, 9, 10]), (7, [4]), (8, [0, 1, 4, 6, 9]), (9, [0, 1, 4, 6, 11]), (10, [0, 1, 4, 11, 56, 57, 58]), (11, [0, 1, 4, 11, 56, 57, 58]), (12, [0, 1, 4, 11, 13, 56, 57, 58]), (13, [0, 1, 4, 11, 14, 15, 56, 57, 58]), (14, [4]), (15, [0, 1, 4, 11, 14, 56, 57, 58]), (16, [0, 1, 4, 11, 56, 57, 58]), (17, [0, 1, 4, 11]), (18, [4]), (19, [4, 11])] }
attribute [local push_cast] E100
set_option maxRecDepth 20000 in
set_option maxHeartbeats 1000000 in
theorem implReadList (t : Str) (w : Int) (ht : t.size ≤ 10000000) : Does Tryz.prog 100 [.sc (.string t), .sc (.int .i64 w)] (.tu [.ag (lstC true (readL t w).1), .sc (.bool (readL t w).2)], []) := by
  refine does_of (E := E100) (rs := [.cell 4 96, .tmp 5]) (lent := []) tOk rfl Tryz.func100 rfl (by decide) rfl rfl (Nat.le_of_ble_eq_true rfl) (Nat.le_of_ble_eq_true rfl) ?_
  obtain ⟨M, hM⟩ : ∃ M, M = readL t w := ⟨_, rfl⟩
  rw [← hM]
  obtain ⟨K, hK⟩ : ∃ K, K = cutL 10 (bt t) := ⟨_, rfl⟩
  have bad : (∀ l, okLs l w = true → stB (formB l) = t → K = (sizB ++ Lib.decDigits l.sz.toNat) :: (hexL l.S ++ [[]]) → False) → M = ((⟨0, []⟩ : Lst), false) := fun h => by
    rw [hM]
    exact read_no fun l h1 h2 => h l h1 h2 (by rw [hK, ← h2, bt_stB, cut_form])
  have hKn := cutF_len 10 (bt t) [] []
  have hKs := cutF_sz 10 (bt t) [] [] t.size (by simp) (by rw [bt_len]; simp)
  have hKe := cutF_ne 10 (bt t) [] []
  rw [show cutF 10 [] [] (bt t) = cutL 10 (bt t) from rfl, ← hK] at hKn hKs hKe
  rw [bt_len, List.length_nil] at hKn
  have hsp := splitNl t ht
  rw [← hK] at hsp
  (simp -dsimp (disch := first | omega | (simp only [LR] <;> omega) | fail) only [push_cast, simprocAttr, -Nat.reduceSubDiff]) <;> (repeat (refine (aw_draw (by kernel_rfl)).2 ?_; simp -dsimp (disch := first | omega | (simp only [LR] <;> omega) | fail) only [push_cast, simprocAttr, -Nat.reduceSubDiff]))
  refine callC hsp ?_
  obtain ⟨a, L, hc⟩ : ∃ a L, K = a :: L := by
    cases K with
    | nil => exact (hKe rfl).elim
    | cons a L => exact ⟨a, L, rfl⟩
  rw [hc] at bad hKn hKs ⊢
  have has := hKs a (List.mem_cons_self ..)
  (simp -dsimp (disch := first | omega | (simp only [LR] <;> omega) | fail) only [push_cast, simprocAttr, -Nat.reduceSubDiff]) <;> (repeat (refine (aw_draw (by kernel_rfl)).2 ?_; simp -dsimp (disch := first | omega | (simp only [LR] <;> omega) | fail) only [push_cast, simprocAttr, -Nat.reduceSubDiff]))
  refine callC (cutPrefix (stB a) ⟨#[115, 105, 122, 101, 32]⟩) ?_
  rw [bt_stB, show bt ⟨#[115, 105, 122, 101, 32]⟩ = sizB from rfl]
  cases hp : Lib.hasPrefix a sizB with
  | false =>
    have hM := bad fun l _ _ h => by
      injection h with h1 h2
      rw [h1, pre_app.1] at hp; cases hp
    subst hM
    (simp -dsimp (disch := first | omega | (simp only [LR] <;> omega) | fail) only [push_cast, simprocAttr, -Nat.reduceSubDiff]) <;> (repeat (refine (aw_draw (by kernel_rfl)).2 ?_; simp -dsimp (disch := first | omega | (simp only [LR] <;> omega) | fail) only [push_cast, simprocAttr, -Nat.reduceSubDiff]))
  | true =>
  obtain ⟨q, hq, hq2⟩ := pre_of hp
  rw [hq2]
  have hql : a.length = 5 + q.length := by rw [hq, List.length_append]; rfl
  -- the last line
  obtain ⟨b, hb⟩ : ∃ b, (a :: L)[L.length]? = some b := ex_get (by simp)
  have hbm : (([AV.sc (Value.string (stB a))] :: List.map strR (List.map stB L)) : List Row)[L.length]? = some [AV.sc (Value.string (stB b))] := by
    show (((a :: L).map stB).map strR)[L.length]? = _
    rw [List.getElem?_map, List.getElem?_map, hb]; rfl
  rw [List.length_cons] at hKn
  have hLn : L.length ≤ 10000000 := by omega
  have e0 : wr .i64 ((L.length : Int) + 1 - 1) = (L.length : Int) := by rw [show (L.length : Int) + 1 - 1 = L.length by omega]; exact wr_id (by omega) (by omega)
  by_cases hb0 : stB b = ⟨#[]⟩
  rotate_left
  · have hM := bad fun l _ _ h => by
      rw [h] at hb
      injection h with h1 h2
      rw [h2, List.length_append, List.length_cons, List.length_nil, List.getElem?_cons_succ, List.getElem?_append_right (by omega)] at hb
      simp at hb
      exact hb0 (by rw [← hb]; rfl)
    subst hM
    (simp -dsimp (disch := first | omega | (simp only [hbm, e0, hb0, wr_id, LR] <;> omega) | fail) only [push_cast, hbm, e0, hb0, wr_id, simprocAttr, -Nat.reduceSubDiff]) <;> (repeat (refine (aw_draw (by kernel_rfl)).2 ?_; simp -dsimp (disch := first | omega | (simp only [hbm, e0, hb0, wr_id, LR] <;> omega) | fail) only [push_cast, hbm, e0, hb0, wr_id, simprocAttr, -Nat.reduceSubDiff]))
  by_cases h4 : 4 < q.length
  · have hM := bad fun l hl _ h => by
      obtain ⟨_, _, s0, s3, _, _⟩ := okLs_up hl
      injection h with h1 h2
      have h3 := dec_len4 (n := l.sz.toNat) (by omega)
      rw [h1] at hql
      rw [List.length_append, show sizB.length = 5 from rfl] at hql
      omega
    subst hM
    (simp -dsimp (disch := first | omega | (simp only [hbm, e0, hb0, wr_id, stB_size, h4, LR] <;> omega) | fail) only [push_cast, hbm, e0, hb0, wr_id, stB_size, h4, simprocAttr, -Nat.reduceSubDiff]) <;> (repeat (refine (aw_draw (by kernel_rfl)).2 ?_; simp -dsimp (disch := first | omega | (simp only [hbm, e0, hb0, wr_id, stB_size, h4, LR] <;> omega) | fail) only [push_cast, hbm, e0, hb0, wr_id, stB_size, h4, simprocAttr, -Nat.reduceSubDiff]))
  (simp -dsimp (disch := first | omega | (simp only [hbm, e0, hb0, wr_id, stB_size, h4, LR] <;> omega) | fail) only [push_cast, hbm, e0, hb0, wr_id, stB_size, h4, simprocAttr, -Nat.reduceSubDiff]) <;> (repeat (refine (aw_draw (by kernel_rfl)).2 ?_; simp -dsimp (disch := first | omega | (simp only [hbm, e0, hb0, wr_id, stB_size, h4, LR] <;> omega) | fail) only [push_cast, hbm, e0, hb0, wr_id, stB_size, h4, simprocAttr, -Nat.reduceSubDiff]))
  cases hA : Lib.atoi q with
  | none =>
    have hM := bad fun l _ _ h => by
      injection h with h1 h2
      rw [hq] at h1
      rw [List.append_cancel_left h1, atoi_dec] at hA
      cases hA
    subst hM
    refine callC (atoi_no (stB q) (by rw [stB_size]; omega) (by rw [bt_stB]; exact hA)) ?_
    (simp -dsimp (disch := first | omega | (simp only [isC, pNil, LR] <;> omega) | fail) only [push_cast, isC, pNil, simprocAttr, -Nat.reduceSubDiff]) <;> (repeat (refine (aw_draw (by kernel_rfl)).2 ?_; simp -dsimp (disch := first | omega | (simp only [isC, pNil, LR] <;> omega) | fail) only [push_cast, isC, pNil, simprocAttr, -Nat.reduceSubDiff]))
  | some n =>
  refine callC (atoi_yes (stB q) n (by rw [stB_size]; omega) (by rw [bt_stB]; exact hA)) ?_
  have hL0 : L.length ≠ 0 := fun h0 => by
    rw [h0] at hb
    have hb : a = b := Option.some.inj hb
    have := congrArg ByteArray.size hb0
    rw [stB_size, ← hb, hql] at this
    have e : (⟨#[]⟩ : ByteArray).size = 0 := rfl
    omega
  obtain ⟨m, hm⟩ : ∃ m, L.length = m + 1 := ⟨L.length - 1, by omega⟩
  have e1 : wr .i64 ((m : Int) + 1 + 1 - 1) = ((m + 1 : Nat) : Int) := by rw [show (m : Int) + 1 + 1 - 1 = ((m + 1 : Nat) : Int) by omega]; exact wr_id (by omega) (by omega)
  have e2 : ((m : Int) + 1 - 1).toNat = m := by omega
  rw [hm]
  (simp -dsimp (disch := first | omega | (simp only [hm, e1, e2, wr_id, isC, pNil, LR] <;> omega) | fail) only [push_cast, hm, e1, e2, wr_id, isC, pNil, simprocAttr, -Nat.reduceSubDiff]) <;> (repeat (refine (aw_draw (by kernel_rfl)).2 ?_; simp -dsimp (disch := first | omega | (simp only [hm, e1, e2, wr_id, isC, pNil, LR] <;> omega) | fail) only [push_cast, hm, e1, e2, wr_id, isC, pNil, simprocAttr, -Nat.reduceSubDiff]))
  have hLx : ∀ l : Lst, a :: L = (sizB ++ Lib.decDigits l.sz.toNat) :: (hexL l.S ++ [[]]) → L = hexL l.S ++ [[]] := fun l h => by injection h
  refine loop_ind (α := Nat) (fun j => j ≤ m ∧ j ≤ 376)
    (fun j => ⟨[(0, .sc (.string t)), (1, .sc (.int .i64 w)), (4, .pt 1 0 0), (11, .pt 3 0 0), (56, .ow 5 1 m), (57, .sc (.int .i64 m)), (58, .sc (.int .i64 j))],
      [(1, .bx [.sc (.int .i64 0), .ow 2 0 0]), (2, .ar 1 0 []), (3, .bx [.sc (.int .i64 n), .ow 4 0 ((L.take j).map fun x => stB (Lib.Hx.decode x).1).length]), (4, .ar 1 0 (((L.take j).map fun x => stB (Lib.Hx.decode x).1).map strR)), (5, .ar 1 0 ([.sc (.string (stB a))] :: (L.map stB).map strR))], 6⟩) (fun j => m - j) 0 ⟨Nat.zero_le _, Nat.zero_le _⟩ ?_ ?_
  · simp -dsimp (disch := first | omega | (simp only [List.take_zero, List.map_nil, LR] <;> omega) | fail) only [push_cast, List.take_zero, List.map_nil, simprocAttr, -Nat.reduceSubDiff]
  rintro j ⟨hj, hj3⟩ ih
  have hjl : ((L.take j).map fun x => stB (Lib.Hx.decode x).1).length = j := by rw [List.length_map, List.length_take]; omega
  obtain ⟨D, hD⟩ : ∃ D, D = ((L.take j).map fun x => stB (Lib.Hx.decode x).1) := ⟨_, rfl⟩
  by_cases h : j < m
  · obtain ⟨x, hx⟩ := ex_get (show j < L.length by omega)
    have hxs := hKs x (List.mem_cons_of_mem _ (List.mem_of_getElem? hx))
    have hst : ((L.take (j + 1)).map fun x => stB (Lib.Hx.decode x).1) = D ++ [stB (Lib.Hx.decode x).1] := by rw [take_step hx, List.map_append, hD]; rfl
    have hx1 : (([AV.sc (Value.string (stB a))] :: List.map strR (List.map stB L)) : List Row)[1 + j]? = some [AV.sc (Value.string (stB x))] := by
      rw [Nat.add_comm, List.getElem?_cons_succ, List.getElem?_map, List.getElem?_map, hx]; rfl
    have hdl := Lib.Hx.decode_len x
    rw [← hD] at hjl ⊢
    (simp -dsimp (disch := first | omega | (simp only [hx, hx1, h, LR] <;> omega) | fail) only [push_cast, hx, hx1, h, simprocAttr, -Nat.reduceSubDiff]) <;> (repeat (refine (aw_draw (by kernel_rfl)).2 ?_; simp -dsimp (disch := first | omega | (simp only [hx, hx1, h, LR] <;> omega) | fail) only [push_cast, hx, hx1, h, simprocAttr, -Nat.reduceSubDiff]))
    refine callC (hexDec (stB x) (by rw [stB_size]; omega)) ?_
    rw [bt_stB]
    cases hd : (Lib.Hx.decode x).2 with
    | ok =>
      rw [show decA x = .sc .nilIface by unfold decA; rw [hd]]
      by_cases h7 : 375 < j
      · have hM := bad fun l hl _ h => by
          obtain ⟨h1, _⟩ := hex_at (hLx l h) hm
          obtain ⟨_, _, _, _, hn, _⟩ := okLs_up hl
          omega
        subst hM
        (simp -dsimp (disch := first | omega | (simp only [isC, pNil, hjl, h7, LR] <;> omega) | fail) only [push_cast, isC, pNil, hjl, h7, simprocAttr, -Nat.reduceSubDiff]) <;> (repeat (refine (aw_draw (by kernel_rfl)).2 ?_; simp -dsimp (disch := first | omega | (simp only [isC, pNil, hjl, h7, LR] <;> omega) | fail) only [push_cast, isC, pNil, hjl, h7, simprocAttr, -Nat.reduceSubDiff]))
      · (simp -dsimp (disch := first | omega | (simp only [isC, pNil, hjl, h7, wr_id, LR] <;> omega) | fail) only [push_cast, isC, pNil, hjl, h7, wr_id, simprocAttr, -Nat.reduceSubDiff]) <;> (repeat (refine (aw_draw (by kernel_rfl)).2 ?_; simp -dsimp (disch := first | omega | (simp only [isC, pNil, hjl, h7, wr_id, LR] <;> omega) | fail) only [push_cast, isC, pNil, hjl, h7, wr_id, simprocAttr, -Nat.reduceSubDiff]))
        refine ih (j + 1) _ (by omega) ⟨h, by omega⟩ ?_
        rw [hst]
        simp -dsimp (disch := first | omega | (simp only [wr_id, List.map_append, List.length_append, List.length_cons, List.length_nil, List.map_cons, List.map_nil, hjl, stB, LR] <;> omega) | fail) only [push_cast, wr_id, List.map_append, List.length_append, List.length_cons, List.length_nil, List.map_cons, List.map_nil, hjl, stB, simprocAttr, -Nat.reduceSubDiff]
    | bad c =>
      have hM := bad fun l hl _ h3 => by
        obtain ⟨_, h2⟩ := hex_at (hLx l h3) hm
        obtain ⟨s, _, hs⟩ := h2 j x h hx
        rw [hs, dec_enc] at hd; cases hd
      subst hM
      rw [show decA x = .er by unfold decA; rw [hd]]
      (simp -dsimp (disch := first | omega | (simp only [isC, pNil, hjl, LR] <;> omega) | fail) only [push_cast, isC, pNil, hjl, simprocAttr, -Nat.reduceSubDiff]) <;> (repeat (refine (aw_draw (by kernel_rfl)).2 ?_; simp -dsimp (disch := first | omega | (simp only [isC, pNil, hjl, LR] <;> omega) | fail) only [push_cast, isC, pNil, hjl, simprocAttr, -Nat.reduceSubDiff]))
    | odd =>
      have hM := bad fun l hl _ h3 => by
        obtain ⟨_, h2⟩ := hex_at (hLx l h3) hm
        obtain ⟨s, _, hs⟩ := h2 j x h hx
        rw [hs, dec_enc] at hd; cases hd
      subst hM
      rw [show decA x = .er by unfold decA; rw [hd]]
      (simp -dsimp (disch := first | omega | (simp only [isC, pNil, hjl, LR] <;> omega) | fail) only [push_cast, isC, pNil, hjl, simprocAttr, -Nat.reduceSubDiff]) <;> (repeat (refine (aw_draw (by kernel_rfl)).2 ?_; simp -dsimp (disch := first | omega | (simp only [isC, pNil, hjl, LR] <;> omega) | fail) only [push_cast, isC, pNil, hjl, simprocAttr, -Nat.reduceSubDiff]))
  · have hj : j = m := by omega
    rw [← hD] at hjl ⊢
    (simp -dsimp (disch := first | omega | (simp only [h, LR] <;> omega) | fail) only [push_cast, h, simprocAttr, -Nat.reduceSubDiff]) <;> (repeat (refine (aw_draw (by kernel_rfl)).2 ?_; simp -dsimp (disch := first | omega | (simp only [h, LR] <;> omega) | fail) only [push_cast, h, simprocAttr, -Nat.reduceSubDiff]))
    refine callC (implFormList ⟨n, D⟩ w (by show D.length ≤ _; omega)) ?_
    by_cases e : formL ⟨n, D⟩ w = t
    · have h5 : 1 ≤ t.size := by
        have := hKs a (List.mem_cons_self ..)
        omega
      obtain ⟨o1, o2⟩ := formL_ok e h5
      have hM : M = (⟨n, D⟩, true) := by rw [hM]; exact read_of o1 o2
      subst hM
      (simp -dsimp (disch := first | omega | (simp only [e, hjl, LR] <;> omega) | fail) only [push_cast, e, hjl, simprocAttr, -Nat.reduceSubDiff]) <;> (repeat (refine (aw_draw (by kernel_rfl)).2 ?_; simp -dsimp (disch := first | omega | (simp only [e, hjl, LR] <;> omega) | fail) only [push_cast, e, hjl, simprocAttr, -Nat.reduceSubDiff]))
    · have hM := bad fun l hl hf h3 => by
        have h6 := hLx l h3
        have h7 : D = l.S := by
          obtain ⟨h8, _⟩ := hex_at h6 hm
          have hh : (hexL l.S).length = m := by unfold hexL; rw [List.length_map]; exact h8
          rw [hD, hj, h6, List.take_left' hh, decL_hex]
        have h9 : n = l.sz := by
          obtain ⟨_, _, s0, _, _, _⟩ := okLs_up hl
          injection h3 with h1 h2
          rw [hq] at h1
          rw [List.append_cancel_left h1, atoi_dec] at hA
          have := Option.some.inj hA
          omega
        apply e
        rw [h7, h9]
        unfold formL
        rw [if_pos hl]; exact hf
      subst hM
      (simp -dsimp (disch := first | omega | (simp only [e, hjl, LR] <;> omega) | fail) only [push_cast, e, hjl, simprocAttr, -Nat.reduceSubDiff]) <;> (repeat (refine (aw_draw (by kernel_rfl)).2 ?_; simp -dsimp (disch := first | omega | (simp only [e, hjl, LR] <;> omega) | fail) only [push_cast, e, hjl, simprocAttr, -Nat.reduceSubDiff]))
end Go.Proofs.YtkkmgjhfjhcdmaaGreatDoor.Mx

/- Lists in stores; what a store lacks. -/
namespace Go.Proofs.YtkkmgjhfjhcdmaaGreatDoor.Mx
set_option linter.all false
open Go Go.RowKit Go.Proofs
set_option linter.unusedSimpArgs false
def E67 : Env := { T := T0, kp := look [(0, [0, 1]), (1, [1, 2]), (2, [1, 2, 5]), (3, [1, 2, 5]), (4, [1, 2, 5]), (5, [5]), (6, [])], dp := look2 [(4, [[], [0], [], [0, 1, 2], [0, 1, 2, 3], [0, 1, 2, 3, 4], [], [6], [0, 1, 2, 3, 4, 5, 6, 7], [], [0, 1, 2, 3, 4, 5, 6, 7, 8, 9]])] }
attribute [local push_cast] E67
set_option maxHeartbeats 1000000 in
theorem l4At (s : Store) (n : Str) (hs : okStore s) : Does Tryz.prog 67 [.ag (storeC false s), .sc (.string n)] (.sc (.int .i64 (atI s.w n s.I)), []) := by
  refine does_of (E := E67) (rs := [.tmp 4]) (lent := []) tOk rfl Tryz.func67 rfl (by decide) rfl rfl (Nat.le_of_ble_eq_true rfl) (Nat.le_of_ble_eq_true rfl) ?_
  obtain ⟨M, hM⟩ : ∃ M, M = atI s.w n s.I := ⟨_, rfl⟩
  rw [← hM]
  have hl := hs.1.1
  (simp -dsimp (disch := first | omega | (simp only [LR] <;> omega) | fail) only [push_cast, simprocAttr, -Nat.reduceSubDiff]) <;> (repeat (refine (aw_draw (by kernel_rfl)).2 ?_; simp -dsimp (disch := first | omega | (simp only [LR] <;> omega) | fail) only [push_cast, simprocAttr, -Nat.reduceSubDiff]))
  refine loop_ind (α := Nat) (fun i => i ≤ s.I.length ∧ ∀ j y, j < i → s.I[j]? = some y → sumS y.t s.w ≠ n)
    (fun i => ⟨[(1, .sc (.string n)), (2, .pt 1 0 0), (5, .sc (.int .i64 i))], [(1, .bx (storeC false s))], 2⟩) (fun i => s.I.length - i) 0 ⟨Nat.zero_le _, fun j y h => by omega⟩ ?_ ?_
  · simp -dsimp (disch := first | omega | (simp only [LR] <;> omega) | fail) only [push_cast, simprocAttr, -Nat.reduceSubDiff]
  rintro i ⟨hi, hq⟩ ih
  by_cases h : i < s.I.length
  · obtain ⟨x, hx⟩ := ex_get h
    have hxt : x.t.size ≤ 2097152 := hs.1.2 x (List.mem_of_getElem? hx)
    (simp -dsimp (disch := first | omega | (simp only [h, hx, LR] <;> omega) | fail) only [push_cast, h, hx, simprocAttr, -Nat.reduceSubDiff]) <;> (repeat (refine (aw_draw (by kernel_rfl)).2 ?_; simp -dsimp (disch := first | omega | (simp only [h, hx, LR] <;> omega) | fail) only [push_cast, h, hx, simprocAttr, -Nat.reduceSubDiff]))
    refine callC (specSum x.t s.w (by omega)) ?_
    by_cases e : sumS x.t s.w = n
    · rw [at_some hq hx e] at hM
      (simp -dsimp (disch := first | omega | (simp only [e, hM, LR] <;> omega) | fail) only [push_cast, e, hM, simprocAttr, -Nat.reduceSubDiff]) <;> (repeat (refine (aw_draw (by kernel_rfl)).2 ?_; simp -dsimp (disch := first | omega | (simp only [e, hM, LR] <;> omega) | fail) only [push_cast, e, hM, simprocAttr, -Nat.reduceSubDiff]))
    · (simp -dsimp (disch := first | omega | (simp only [e, LR] <;> omega) | fail) only [push_cast, e, simprocAttr, -Nat.reduceSubDiff]) <;> (repeat (refine (aw_draw (by kernel_rfl)).2 ?_; simp -dsimp (disch := first | omega | (simp only [e, LR] <;> omega) | fail) only [push_cast, e, simprocAttr, -Nat.reduceSubDiff]))
      refine ih (i + 1) _ (by omega) ⟨h, fun j y hj hy => ?_⟩ ?_
      · by_cases ej : j = i
        · subst ej; rw [hx] at hy; cases hy; exact e
        · exact hq j y (by omega) hy
      · simp -dsimp (disch := first | omega | (simp only [wr_id, LR] <;> omega) | fail) only [push_cast, wr_id, simprocAttr, -Nat.reduceSubDiff]
  · rw [at_none (fun y hy => by obtain ⟨j, hj⟩ := List.getElem?_of_mem hy; exact hq j y (by have := (List.getElem?_eq_some_iff.1 hj).1; omega) hj)] at hM
    (simp -dsimp (disch := first | omega | (simp only [h, hM, LR] <;> omega) | fail) only [push_cast, h, hM, simprocAttr, -Nat.reduceSubDiff]) <;> (repeat (refine (aw_draw (by kernel_rfl)).2 ?_; simp -dsimp (disch := first | omega | (simp only [h, hM, LR] <;> omega) | fail) only [push_cast, h, hM, simprocAttr, -Nat.reduceSubDiff]))
def E65 : Env := { T := T0, kp := look [(0, [0, 1]), (1, [1, 2]), (2, [1, 2, 8, 9, 10]), (3, [1, 2, 8, 9, 10]), (4, [1, 2, 5, 6, 8, 9, 10]), (5, [5]), (6, [1, 2, 8, 9, 10]), (7, [])] }
attribute [local push_cast] E65
set_option maxHeartbeats 1000000 in
theorem find (s : Store) (n : Str) (hs : okStore s) : Does Tryz.prog 65 [.ag (storeC false s), .sc (.string n)] (.sc (.int .i64 (atI s.w n s.I)), []) := by
  refine does_of (E := E65) (rs := [.tmp 4]) (lent := []) tOk rfl Tryz.func65 rfl (by decide) rfl rfl (Nat.le_of_ble_eq_true rfl) (Nat.le_of_ble_eq_true rfl) ?_
  obtain ⟨M, hM⟩ : ∃ M, M = atI s.w n s.I := ⟨_, rfl⟩
  rw [← hM]
  have hl := hs.1.1
  (simp -dsimp (disch := first | omega | (simp only [LR] <;> omega) | fail) only [push_cast, simprocAttr, -Nat.reduceSubDiff]) <;> (repeat (refine (aw_draw (by kernel_rfl)).2 ?_; simp -dsimp (disch := first | omega | (simp only [LR] <;> omega) | fail) only [push_cast, simprocAttr, -Nat.reduceSubDiff]))
  refine loop_ind (α := Nat) (fun i => i ≤ s.I.length ∧ ∀ j y, j < i → s.I[j]? = some y → sumS y.t s.w ≠ n)
    (fun i => ⟨[(1, .sc (.string n)), (2, .pt 1 0 0), (8, .sl false 2 (s.I.map (itemC false))), (9, .sc (.int .i64 s.I.length)), (10, .sc (.int .i64 i))], [(1, .bx (storeC false s))], 2⟩) (fun i => s.I.length - i) 0 ⟨Nat.zero_le _, fun j y h => by omega⟩ ?_ ?_
  · simp -dsimp (disch := first | omega | (simp only [LR] <;> omega) | fail) only [push_cast, simprocAttr, -Nat.reduceSubDiff]
  rintro i ⟨hi, hq⟩ ih
  by_cases h : i < s.I.length
  · obtain ⟨x, hx⟩ := ex_get h
    have hxt : x.t.size ≤ 2097152 := hs.1.2 x (List.mem_of_getElem? hx)
    (simp -dsimp (disch := first | omega | (simp only [h, hx, LR] <;> omega) | fail) only [push_cast, h, hx, simprocAttr, -Nat.reduceSubDiff]) <;> (repeat (refine (aw_draw (by kernel_rfl)).2 ?_; simp -dsimp (disch := first | omega | (simp only [h, hx, LR] <;> omega) | fail) only [push_cast, h, hx, simprocAttr, -Nat.reduceSubDiff]))
    refine callC (implSum x.t s.w (by omega)) ?_
    by_cases e : sumS x.t s.w = n
    · rw [at_some hq hx e] at hM
      (simp -dsimp (disch := first | omega | (simp only [e, hM, LR] <;> omega) | fail) only [push_cast, e, hM, simprocAttr, -Nat.reduceSubDiff]) <;> (repeat (refine (aw_draw (by kernel_rfl)).2 ?_; simp -dsimp (disch := first | omega | (simp only [e, hM, LR] <;> omega) | fail) only [push_cast, e, hM, simprocAttr, -Nat.reduceSubDiff]))
    · (simp -dsimp (disch := first | omega | (simp only [e, LR] <;> omega) | fail) only [push_cast, e, simprocAttr, -Nat.reduceSubDiff]) <;> (repeat (refine (aw_draw (by kernel_rfl)).2 ?_; simp -dsimp (disch := first | omega | (simp only [e, LR] <;> omega) | fail) only [push_cast, e, simprocAttr, -Nat.reduceSubDiff]))
      refine ih (i + 1) _ (by omega) ⟨h, fun j y hj hy => ?_⟩ ?_
      · by_cases ej : j = i
        · subst ej; rw [hx] at hy; cases hy; exact e
        · exact hq j y (by omega) hy
      · simp -dsimp (disch := first | omega | (simp only [wr_id, LR] <;> omega) | fail) only [push_cast, wr_id, simprocAttr, -Nat.reduceSubDiff]
  · rw [at_none (fun y hy => by obtain ⟨j, hj⟩ := List.getElem?_of_mem hy; exact hq j y (by have := (List.getElem?_eq_some_iff.1 hj).1; omega) hj)] at hM
    (simp -dsimp (disch := first | omega | (simp only [h, hM, LR] <;> omega) | fail) only [push_cast, h, hM, simprocAttr, -Nat.reduceSubDiff]) <;> (repeat (refine (aw_draw (by kernel_rfl)).2 ?_; simp -dsimp (disch := first | omega | (simp only [h, hM, LR] <;> omega) | fail) only [push_cast, h, hM, simprocAttr, -Nat.reduceSubDiff]))
def E112 : Env := { T := T0, kp := look [(0, [0, 1]), (1, [1, 2, 4]), (2, [2, 4, 6]), (3, [4]), (4, [2, 4, 6])], dp := look2 [(4, [[], [0], [], [0, 1, 2], [0, 1, 2, 3], [0, 1, 2, 3, 4], [], [6], [0, 1, 2, 3, 4, 5, 6, 7], [0, 1, 2, 3, 4, 5, 6, 7, 8], [0, 1, 2, 3, 4, 5, 6, 7, 8], [0, 1, 2, 3, 4, 5, 6, 7, 8, 9, 10], [0, 1, 2, 3, 4, 5, 6, 7, 8, 9, 10, 11]])] }
attribute [local push_cast] E112
set_option maxHeartbeats 1000000 in
theorem l4List (s : Store) (n : Str) (hs : okStore s) : Does Tryz.prog 112 [.ag (storeC false s), .sc (.string n)] (.tu [.ag (lstC true (listF s n).1), .sc (.bool (listF s n).2)], []) := by
  refine does_of (E := E112) (rs := [.cell 4 96, .tmp 5]) (lent := []) tOk rfl Tryz.func112 rfl (by decide) rfl rfl (Nat.le_of_ble_eq_true rfl) (Nat.le_of_ble_eq_true rfl) ?_
  obtain ⟨M, hM⟩ : ∃ M, M = listF s n := ⟨_, rfl⟩
  rw [← hM]
  have hl := hs.1.1
  (simp -dsimp (disch := first | omega | (simp only [LR] <;> omega) | fail) only [push_cast, simprocAttr, -Nat.reduceSubDiff]) <;> (repeat (refine (aw_draw (by kernel_rfl)).2 ?_; simp -dsimp (disch := first | omega | (simp only [LR] <;> omega) | fail) only [push_cast, simprocAttr, -Nat.reduceSubDiff]))
  refine callC (l4At s n hs) ?_
  unfold listF at hM
  by_cases h : atI s.w n s.I < 0
  · rw [if_pos h] at hM
    subst hM
    (simp -dsimp (disch := first | omega | (simp only [h, LR] <;> omega) | fail) only [push_cast, h, simprocAttr, -Nat.reduceSubDiff]) <;> (repeat (refine (aw_draw (by kernel_rfl)).2 ?_; simp -dsimp (disch := first | omega | (simp only [h, LR] <;> omega) | fail) only [push_cast, h, simprocAttr, -Nat.reduceSubDiff]))
  obtain ⟨i, x, h1, h2, _⟩ := at_get (w := s.w) (n := n) (I := s.I) (by omega)
  have hxt : x.t.size ≤ 2097152 := hs.1.2 x (List.mem_of_getElem? h2)
  have hil := (List.getElem?_eq_some_iff.1 h2).1
  rw [if_neg h, h1, Int.toNat_natCast, h2] at hM
  simp only at hM
  rw [h1]
  (simp -dsimp (disch := first | omega | (simp only [h2, LR] <;> omega) | fail) only [push_cast, h2, simprocAttr, -Nat.reduceSubDiff]) <;> (repeat (refine (aw_draw (by kernel_rfl)).2 ?_; simp -dsimp (disch := first | omega | (simp only [h2, LR] <;> omega) | fail) only [push_cast, h2, simprocAttr, -Nat.reduceSubDiff]))
  refine callC (specReadList x.t s.w (by omega)) ?_
  rw [← hM]
  (simp -dsimp (disch := first | omega | (simp only [LR] <;> omega) | fail) only [push_cast, simprocAttr, -Nat.reduceSubDiff]) <;> (repeat (refine (aw_draw (by kernel_rfl)).2 ?_; simp -dsimp (disch := first | omega | (simp only [LR] <;> omega) | fail) only [push_cast, simprocAttr, -Nat.reduceSubDiff]))
end Go.Proofs.YtkkmgjhfjhcdmaaGreatDoor.Mx

/- Stores stay valid; what is needed stays: pure. -/
namespace Go.Proofs.YtkkmgjhfjhcdmaaGreatDoor.Mx
set_option linter.all false
open Go Go.RowKit
abbrev ltsP (a b : Str) : Prop := lts a b = true
def okIt (x : Item) : Bool := inB x.t.size 1 7000 && inB x.u 0 1000000
theorem it_iff (w : Int) : ∀ (I : List Item) (p : Option Str), itF w p I = true ↔ (∀ x ∈ I, okIt x = true) ∧ (sumsI w I).Pairwise ltsP ∧ ∀ x ∈ I, aft p (sumS x.t w) = true
  | [], p => by simp [itF, sumsI]
  | a :: r, p => by
    rw [itF]
    simp only [Bool.and_eq_true]
    rw [it_iff w r, show sumsI w (a :: r) = sumS a.t w :: sumsI w r from rfl, List.pairwise_cons]
    constructor
    · rintro ⟨⟨⟨h1, h2⟩, h3⟩, h4, h5, h6⟩
      refine ⟨fun x hx => ?_, ⟨fun y hy => ?_, h5⟩, fun x hx => ?_⟩
      · rcases List.mem_cons.1 hx with rfl | hx
        · unfold okIt; rw [h1, h2]; rfl
        · exact h4 x hx
      · obtain ⟨x, hx, rfl⟩ := List.mem_map.1 hy
        exact h6 x hx
      · rcases List.mem_cons.1 hx with rfl | hx
        · exact h3
        · cases p with
          | none => rfl
          | some q => exact lts_trans h3 (h6 x hx)
    · rintro ⟨h1, ⟨h2, h3⟩, h4⟩
      have ha := h1 a (by simp)
      unfold okIt at ha
      rw [Bool.and_eq_true] at ha
      exact ⟨⟨⟨ha.1, ha.2⟩, h4 a (by simp)⟩, fun x hx => h1 x (by simp [hx]), h3, fun x hx => h2 _ (List.mem_map.2 ⟨x, hx, rfl⟩)⟩
theorem asc_iff (w : Int) : ∀ (P : List Str) (p : Option Str), ascF w p P = true ↔ (∀ x ∈ P, (x.size : Int) = w) ∧ P.Pairwise ltsP ∧ ∀ x ∈ P, aft p x = true
  | [], p => by simp [ascF]
  | a :: r, p => by
    rw [ascF]
    simp only [Bool.and_eq_true, decide_eq_true_eq]
    rw [asc_iff w r, List.pairwise_cons]
    constructor
    · rintro ⟨⟨h1, h3⟩, h4, h5, h6⟩
      refine ⟨fun x hx => ?_, ⟨fun y hy => h6 y hy, h5⟩, fun x hx => ?_⟩
      · rcases List.mem_cons.1 hx with rfl | hx
        · exact h1
        · exact h4 x hx
      · rcases List.mem_cons.1 hx with rfl | hx
        · exact h3
        · cases p with
          | none => rfl
          | some q => exact lts_trans h3 (h6 x hx)
    · rintro ⟨h1, ⟨h2, h3⟩, h4⟩
      exact ⟨⟨h1 a (by simp), h4 a (by simp)⟩, fun x hx => h1 x (by simp [hx]), h3, h2⟩
/-- a valid store, part by part -/
theorem valid_iff (s : Store) : validSt s = true ↔ (1 ≤ s.w ∧ s.w ≤ 8) ∧ (0 ≤ s.r ∧ s.r ≤ 60000) ∧ s.I.length ≤ 1000 ∧ s.P.length ≤ 10 ∧ (∀ x ∈ s.P, (x.size : Int) = s.w) ∧ s.P.Pairwise ltsP ∧
    (∀ x ∈ s.I, okIt x = true) ∧ (sumsI s.w s.I).Pairwise ltsP ∧ bytes s.I ≤ s.r := by
  unfold validSt
  simp only [Bool.and_eq_true, decide_eq_true_eq]
  rw [asc_iff, it_iff]
  constructor
  · rintro ⟨⟨⟨⟨⟨⟨h1, h2⟩, h3⟩, h4⟩, h5, h6, _⟩, h7, h8, _⟩, h9⟩
    exact ⟨of_decide_eq_true h1, of_decide_eq_true h2, h3, h4, h5, h6, h7, h8, h9⟩
  · rintro ⟨h1, h2, h3, h4, h5, h6, h7, h8, h9⟩
    exact ⟨⟨⟨⟨⟨⟨decide_eq_true h1, decide_eq_true h2⟩, h3⟩, h4⟩, h5, h6, fun _ _ => rfl⟩, h7, h8, fun _ _ => rfl⟩, h9⟩
/-- a text with its sum -/
def has (s : Store) (t : Str) : Prop := ∃ x ∈ s.I, x.t = t
end Go.Proofs.YtkkmgjhfjhcdmaaGreatDoor.Mx

/- A fetch ticks: pure. -/
namespace Go.Proofs.YtkkmgjhfjhcdmaaGreatDoor.Mx
set_option linter.all false
open Go Go.RowKit
def decP (p : Peer) : Peer := if 0 < p.wait then ⟨p.lies, p.wait - 1, p.last, if p.wait - 1 = 0 then ⟨#[]⟩ else p.ask, p.N⟩ else p
def freeP (p : Peer) : Bool := decide (p.wait = 0) && decide (p.lies < 3)
def lastAt (Q : List Peer) (b : Int) : Int := match Q[b.toNat]? with | some p => p.last | none => 0
/-- of the first peers that were not looked at: who is next -/
def nextF (Q : List Peer) (S : List Bool) : Nat → Int
  | 0 => -1
  | i + 1 => match Q[i]?, S[i]? with
    | some p, some b => if b = false ∧ freeP p = true ∧ (nextF Q S i < 0 ∨ p.last < lastAt Q (nextF Q S i)) then i else nextF Q S i
    | _, _ => nextF Q S i
theorem next_rng (Q : List Peer) (S : List Bool) : ∀ i : Nat, -1 ≤ nextF Q S i ∧ nextF Q S i < i ∧ nextF Q S i < Q.length
  | 0 => by rw [nextF]; omega
  | i + 1 => by
    have := next_rng Q S i
    rw [nextF]
    split
    · rename_i p b hp hb
      have := (List.getElem?_eq_some_iff.1 hp).1
      split <;> omega
    · omega
theorem next_free (Q : List Peer) (S : List Bool) : ∀ (i k : Nat), nextF Q S i = k → ∃ p, Q[k]? = some p ∧ S[k]? = some false ∧ freeP p = true
  | 0, k, h => by rw [nextF] at h; omega
  | i + 1, k, h => by
    rw [nextF] at h
    split at h
    · rename_i p b hp hb
      split at h
      · rename_i hc
        have : i = k := by omega
        subst this
        exact ⟨p, hp, by rw [hb, hc.1], hc.2.1⟩
      · exact next_free Q S i k h
    · exact next_free Q S i k h
def askedB (Q : List Peer) (x : Str) : Bool := Q.any fun p => decide (0 < p.wait) && decide (p.ask = x)
def pickL (Q : List Peer) (p : Peer) : List Str → Str
  | [] => ⟨#[]⟩
  | x :: r => if inL p.N x = false ∧ askedB Q x = false then x else pickL Q p r
def ask1 (now : Int) (lacks : List Str) (q : List Peer × List Message) (i : Nat) : List Peer × List Message :=
  match q.1[i]? with
  | none => q
  | some p => if pickL q.1 p lacks = (⟨#[]⟩ : Str) then q else (q.1.set i ⟨p.lies, 5, now, pickL q.1 p lacks, p.N⟩, q.2 ++ [⟨0, i + 1, pickL q.1 p lacks, false, ⟨#[]⟩⟩])
def cntF (S : List Bool) : Nat := S.countP fun b => !b
theorem cnt_set : ∀ {S : List Bool} {k : Nat}, S[k]? = some false → cntF (S.set k true) + 1 = cntF S
  | [], k, h => by simp at h
  | b :: r, 0, h => by
    simp only [List.getElem?_cons_zero, Option.some.injEq] at h
    subst h
    simp [cntF]
  | b :: r, k + 1, h => by
    have := cnt_set (S := r) (k := k) (by simpa using h)
    unfold cntF at this ⊢
    rw [List.set_cons_succ, List.countP_cons, List.countP_cons]
    omega
theorem ask1_len (now : Int) (lacks : List Str) (q : List Peer × List Message) (i : Nat) : (ask1 now lacks q i).1.length = q.1.length := by
  unfold ask1
  split
  · rfl
  · split
    · rfl
    · simp
def runT (now : Int) (lacks : List Str) (S : List Bool) (q : List Peer × List Message) : List Peer × List Message :=
  if h : 0 ≤ nextF q.1 S q.1.length then runT now lacks (S.set (nextF q.1 S q.1.length).toNat true) (ask1 now lacks q (nextF q.1 S q.1.length).toNat) else q
  termination_by cntF S
  decreasing_by
    obtain ⟨p, _, h2, _⟩ := next_free q.1 S q.1.length (nextF q.1 S q.1.length).toNat (by omega)
    have := cnt_set h2
    omega
noncomputable def tickF (f : Fetch) : Fetch × List Message :=
  if 1000000 ≤ f.now then (f, [])
  else if f.full = true then ({ f with now := f.now + 1, Q := f.Q.map decP }, [])
  else ({ f with now := f.now + 1, Q := (runT (f.now + 1) (lacksF f.st f.nm) (List.replicate f.Q.length false) (f.Q.map decP, [])).1 }, (runT (f.now + 1) (lacksF f.st f.nm) (List.replicate f.Q.length false) (f.Q.map decP, [])).2)
noncomputable def ftickF (f : Fetch) : Fetch × List Message := if validF f = true then tickF f else (emF, [])
end Go.Proofs.YtkkmgjhfjhcdmaaGreatDoor.Mx

/- Fetches: valid (the program's). -/
namespace Go.Proofs.YtkkmgjhfjhcdmaaGreatDoor.Mx
set_option linter.all false
open Go Go.RowKit Go.Proofs
set_option linter.unusedSimpArgs false
def E50 : Env := { T := T0, kp := look [(0, [0]), (1, [1]), (2, []), (3, [1]), (4, [1, 4]), (5, []), (6, [1]), (7, [1, 5]), (8, [1, 5, 44, 45, 46]), (9, [1, 5, 44, 45, 46]), (10, [1, 5, 7, 44, 45, 46]), (11, []), (12, [1, 5, 7, 44, 45, 46]), (13, []), (14, [1, 5, 44, 45, 46]), (15, [])] }
attribute [local push_cast] E50
set_option maxRecDepth 20000 in
set_option maxHeartbeats 4000000 in
theorem implValidFetch (f : Fetch) (hf : okFetch f) : Does Tryz.prog 50 [.ag (fetchC false f)] (.sc (.bool (validF f)), []) := by
  refine does_of (E := E50) (rs := [.tmp 2]) (lent := []) tOk rfl Tryz.func50 rfl (by decide) rfl rfl (Nat.le_of_ble_eq_true rfl) (Nat.le_of_ble_eq_true rfl) ?_
  have hl := hf.2.2.1
  have hp := hf.2.1.2.1
  obtain ⟨M, hM⟩ : ∃ M, M = validF f := ⟨_, rfl⟩
  rw [← hM]
  unfold validF at hM
  (simp -dsimp (disch := first | omega | (simp only [LR] <;> omega) | fail) only [push_cast, simprocAttr, -Nat.reduceSubDiff]) <;> (repeat (refine (aw_draw (by kernel_rfl)).2 ?_; simp -dsimp (disch := first | omega | (simp only [LR] <;> omega) | fail) only [push_cast, simprocAttr, -Nat.reduceSubDiff]))
  refine callC (implValidStore f.st hf.2.1) ?_
  cases c1 : validSt f.st with
  | false =>
    rw [c1, Bool.false_and, Bool.false_and, Bool.false_and, Bool.false_and] at hM
    (simp -dsimp (disch := first | omega | (simp only [hM, LR] <;> omega) | fail) only [push_cast, hM, simprocAttr, -Nat.reduceSubDiff]) <;> (repeat (refine (aw_draw (by kernel_rfl)).2 ?_; simp -dsimp (disch := first | omega | (simp only [hM, LR] <;> omega) | fail) only [push_cast, hM, simprocAttr, -Nat.reduceSubDiff]))
  | true =>
  rw [c1, Bool.true_and] at hM
  have hasc := (validSt_asc c1).1
  (simp -dsimp (disch := first | omega | (simp only [LR] <;> omega) | fail) only [push_cast, simprocAttr, -Nat.reduceSubDiff]) <;> (repeat (refine (aw_draw (by kernel_rfl)).2 ?_; simp -dsimp (disch := first | omega | (simp only [LR] <;> omega) | fail) only [push_cast, simprocAttr, -Nat.reduceSubDiff]))
  refine callC (timeOk ..) ?_
  cases c3 : inB f.now 0 1000000 with
  | false =>
    rw [c3, Bool.and_false, Bool.false_and, Bool.false_and] at hM
    (simp -dsimp (disch := first | omega | (simp only [hM, LR] <;> omega) | fail) only [push_cast, hM, simprocAttr, -Nat.reduceSubDiff]) <;> (repeat (refine (aw_draw (by kernel_rfl)).2 ?_; simp -dsimp (disch := first | omega | (simp only [hM, LR] <;> omega) | fail) only [push_cast, hM, simprocAttr, -Nat.reduceSubDiff]))
  | true =>
  rw [c3, Bool.and_true] at hM
  by_cases c4 : 1 ≤ f.Q.length
  rotate_left
  · rw [show inB f.Q.length 1 5 = false by unfold inB; exact decide_eq_false (by omega), Bool.and_false, Bool.false_and] at hM
    (simp -dsimp (disch := first | omega | (simp only [hM, LR] <;> omega) | fail) only [push_cast, hM, simprocAttr, -Nat.reduceSubDiff]) <;> (repeat (refine (aw_draw (by kernel_rfl)).2 ?_; simp -dsimp (disch := first | omega | (simp only [hM, LR] <;> omega) | fail) only [push_cast, hM, simprocAttr, -Nat.reduceSubDiff]))
  by_cases c5 : f.Q.length ≤ 5
  rotate_left
  · rw [show inB f.Q.length 1 5 = false by unfold inB; exact decide_eq_false (by omega), Bool.and_false, Bool.false_and] at hM
    (simp -dsimp (disch := first | omega | (simp only [hM, LR] <;> omega) | fail) only [push_cast, hM, simprocAttr, -Nat.reduceSubDiff]) <;> (repeat (refine (aw_draw (by kernel_rfl)).2 ?_; simp -dsimp (disch := first | omega | (simp only [hM, LR] <;> omega) | fail) only [push_cast, hM, simprocAttr, -Nat.reduceSubDiff]))
  rw [show inB f.Q.length 1 5 = true by unfold inB; exact decide_eq_true (by omega), Bool.and_true] at hM
  (simp -dsimp (disch := first | omega | (simp only [LR] <;> omega) | fail) only [push_cast, simprocAttr, -Nat.reduceSubDiff]) <;> (repeat (refine (aw_draw (by kernel_rfl)).2 ?_; simp -dsimp (disch := first | omega | (simp only [LR] <;> omega) | fail) only [push_cast, simprocAttr, -Nat.reduceSubDiff]))
  refine callC (pinned f.st f.nm hf.2.1 (asc_parts hasc _)) ?_
  rw [hasS_inL hasc]
  cases c2 : inL f.st.P f.nm with
  | false =>
    rw [c2, Bool.false_and] at hM
    (simp -dsimp (disch := first | omega | (simp only [hM, LR] <;> omega) | fail) only [push_cast, hM, simprocAttr, -Nat.reduceSubDiff]) <;> (repeat (refine (aw_draw (by kernel_rfl)).2 ?_; simp -dsimp (disch := first | omega | (simp only [hM, LR] <;> omega) | fail) only [push_cast, hM, simprocAttr, -Nat.reduceSubDiff]))
  | true =>
  rw [c2, Bool.true_and] at hM
  (simp -dsimp (disch := first | omega | (simp only [LR] <;> omega) | fail) only [push_cast, simprocAttr, -Nat.reduceSubDiff]) <;> (repeat (refine (aw_draw (by kernel_rfl)).2 ?_; simp -dsimp (disch := first | omega | (simp only [LR] <;> omega) | fail) only [push_cast, simprocAttr, -Nat.reduceSubDiff]))
  refine loop_ind (α := Nat) (fun i => i ≤ f.Q.length ∧ M = (f.Q.drop i).all (peerB f.st.w f.now)) (fun i => ⟨[(1, .pt 1 0 0), (5, .sc (.int .i64 f.st.w)), (44, .sl false 5 (f.Q.map (peerC false))), (45, .sc (.int .i64 f.Q.length)), (46, .sc (.int .i64 i))], [(1, .bx (fetchC false f))], 2⟩) (fun i => f.Q.length - i) 0 ⟨Nat.zero_le _, hM⟩ ?_ ?_
  · simp -dsimp (disch := first | omega | (simp only [LR] <;> omega) | fail) only [push_cast, simprocAttr, -Nat.reduceSubDiff]
  clear hM
  rintro i ⟨hi, hM⟩ ih
  by_cases h : i < f.Q.length
  rotate_left
  · rw [List.drop_eq_nil_of_le (by omega), List.all_nil] at hM
    (simp -dsimp (disch := first | omega | (simp only [hM, LR] <;> omega) | fail) only [push_cast, hM, simprocAttr, -Nat.reduceSubDiff]) <;> (repeat (refine (aw_draw (by kernel_rfl)).2 ?_; simp -dsimp (disch := first | omega | (simp only [hM, LR] <;> omega) | fail) only [push_cast, hM, simprocAttr, -Nat.reduceSubDiff]))
  obtain ⟨p, hx⟩ := ex_get h
  have hpN := (hf.2.2.2 p (List.mem_of_getElem? hx)).2.1
  rw [all_drop hx] at hM
  have bad : peerB f.st.w f.now p = false → M = false := fun h => by rw [hM, h, Bool.false_and]
  by_cases a1 : 0 ≤ p.lies
  rotate_left
  · have := bad (by rw [peerB, inB_def p.lies, decide_eq_false a1]; simp)
    (simp -dsimp (disch := first | omega | (simp only [hx, this, LR] <;> omega) | fail) only [push_cast, hx, this, simprocAttr, -Nat.reduceSubDiff]) <;> (repeat (refine (aw_draw (by kernel_rfl)).2 ?_; simp -dsimp (disch := first | omega | (simp only [hx, this, LR] <;> omega) | fail) only [push_cast, hx, this, simprocAttr, -Nat.reduceSubDiff]))
  by_cases a2 : p.lies ≤ 3
  rotate_left
  · have := bad (by rw [peerB, inB_def p.lies, decide_eq_false a2]; simp)
    (simp -dsimp (disch := first | omega | (simp only [hx, this, LR] <;> omega) | fail) only [push_cast, hx, this, simprocAttr, -Nat.reduceSubDiff]) <;> (repeat (refine (aw_draw (by kernel_rfl)).2 ?_; simp -dsimp (disch := first | omega | (simp only [hx, this, LR] <;> omega) | fail) only [push_cast, hx, this, simprocAttr, -Nat.reduceSubDiff]))
  by_cases a3 : 0 ≤ p.wait
  rotate_left
  · have := bad (by rw [peerB, inB_def p.wait, decide_eq_false a3]; simp)
    (simp -dsimp (disch := first | omega | (simp only [hx, this, LR] <;> omega) | fail) only [push_cast, hx, this, simprocAttr, -Nat.reduceSubDiff]) <;> (repeat (refine (aw_draw (by kernel_rfl)).2 ?_; simp -dsimp (disch := first | omega | (simp only [hx, this, LR] <;> omega) | fail) only [push_cast, hx, this, simprocAttr, -Nat.reduceSubDiff]))
  by_cases a4 : p.wait ≤ 5
  rotate_left
  · have := bad (by rw [peerB, inB_def p.wait, decide_eq_false a4]; simp)
    (simp -dsimp (disch := first | omega | (simp only [hx, this, LR] <;> omega) | fail) only [push_cast, hx, this, simprocAttr, -Nat.reduceSubDiff]) <;> (repeat (refine (aw_draw (by kernel_rfl)).2 ?_; simp -dsimp (disch := first | omega | (simp only [hx, this, LR] <;> omega) | fail) only [push_cast, hx, this, simprocAttr, -Nat.reduceSubDiff]))
  by_cases a5 : -1 ≤ p.last
  rotate_left
  · have := bad (by rw [peerB, inB_def p.last, decide_eq_false a5]; simp)
    (simp -dsimp (disch := first | omega | (simp only [hx, this, LR] <;> omega) | fail) only [push_cast, hx, this, simprocAttr, -Nat.reduceSubDiff]) <;> (repeat (refine (aw_draw (by kernel_rfl)).2 ?_; simp -dsimp (disch := first | omega | (simp only [hx, this, LR] <;> omega) | fail) only [push_cast, hx, this, simprocAttr, -Nat.reduceSubDiff]))
  by_cases a6 : p.last ≤ f.now
  rotate_left
  · have := bad (by rw [peerB, inB_def p.last, decide_eq_false a6]; simp)
    (simp -dsimp (disch := first | omega | (simp only [hx, this, LR] <;> omega) | fail) only [push_cast, hx, this, simprocAttr, -Nat.reduceSubDiff]) <;> (repeat (refine (aw_draw (by kernel_rfl)).2 ?_; simp -dsimp (disch := first | omega | (simp only [hx, this, LR] <;> omega) | fail) only [push_cast, hx, this, simprocAttr, -Nat.reduceSubDiff]))
  by_cases a7 : p.N.length ≤ 376
  rotate_left
  · have := bad (by simp [peerB, a7])
    (simp -dsimp (disch := first | omega | (simp only [hx, this, LR] <;> omega) | fail) only [push_cast, hx, this, simprocAttr, -Nat.reduceSubDiff]) <;> (repeat (refine (aw_draw (by kernel_rfl)).2 ?_; simp -dsimp (disch := first | omega | (simp only [hx, this, LR] <;> omega) | fail) only [push_cast, hx, this, simprocAttr, -Nat.reduceSubDiff]))
  have hpb : peerB f.st.w f.now p = (askB f.st.w p.wait p.ask && ascF f.st.w none p.N) := by
    rw [peerB, inB_def p.lies, inB_def p.wait, inB_def p.last, decide_eq_true a1, decide_eq_true a2, decide_eq_true a3, decide_eq_true a4, decide_eq_true a5, decide_eq_true a6, decide_eq_true a7]; rfl
  (simp -dsimp (disch := first | omega | (simp only [hx, LR] <;> omega) | fail) only [push_cast, hx, simprocAttr, -Nat.reduceSubDiff]) <;> (repeat (refine (aw_draw (by kernel_rfl)).2 ?_; simp -dsimp (disch := first | omega | (simp only [hx, LR] <;> omega) | fail) only [push_cast, hx, simprocAttr, -Nat.reduceSubDiff]))
  refine callC (ascending p.N f.st.w hpN) ?_
  cases a8 : ascF f.st.w none p.N with
  | false =>
    have := bad (by rw [hpb, a8, Bool.and_false])
    (simp -dsimp (disch := first | omega | (simp only [this, LR] <;> omega) | fail) only [push_cast, this, simprocAttr, -Nat.reduceSubDiff]) <;> (repeat (refine (aw_draw (by kernel_rfl)).2 ?_; simp -dsimp (disch := first | omega | (simp only [this, LR] <;> omega) | fail) only [push_cast, this, simprocAttr, -Nat.reduceSubDiff]))
  | true =>
  rw [hpb, a8, Bool.and_true] at hM
  by_cases hw : p.wait = 0
  · by_cases h2 : p.ask = ⟨#[]⟩
    · rw [show askB f.st.w p.wait p.ask = true by rw [hw, h2]; rfl, Bool.true_and] at hM
      (simp -dsimp (disch := first | omega | (simp only [hw, h2, LR] <;> omega) | fail) only [push_cast, hw, h2, simprocAttr, -Nat.reduceSubDiff]) <;> (repeat (refine (aw_draw (by kernel_rfl)).2 ?_; simp -dsimp (disch := first | omega | (simp only [hw, h2, LR] <;> omega) | fail) only [push_cast, hw, h2, simprocAttr, -Nat.reduceSubDiff]))
      refine ih (i + 1) _ (by omega) ⟨h, hM⟩ ?_
      simp -dsimp (disch := first | omega | (simp only [wr_id, LR] <;> omega) | fail) only [push_cast, wr_id, simprocAttr, -Nat.reduceSubDiff]
    · rw [show askB f.st.w p.wait p.ask = false by rw [hw]; unfold askB; simp [em, h2], Bool.false_and] at hM
      (simp -dsimp (disch := first | omega | (simp only [hw, h2, hM, LR] <;> omega) | fail) only [push_cast, hw, h2, hM, simprocAttr, -Nat.reduceSubDiff]) <;> (repeat (refine (aw_draw (by kernel_rfl)).2 ?_; simp -dsimp (disch := first | omega | (simp only [hw, h2, hM, LR] <;> omega) | fail) only [push_cast, hw, h2, hM, simprocAttr, -Nat.reduceSubDiff]))
  · have hw2 : 0 < p.wait := by omega
    by_cases h2 : (p.ask.size : Int) = f.st.w
    · rw [show askB f.st.w p.wait p.ask = true by unfold askB; rw [decide_eq_true hw2, cond_true]; exact decide_eq_true h2, Bool.true_and] at hM
      (simp -dsimp (disch := first | omega | (simp only [hw, h2, LR] <;> omega) | fail) only [push_cast, hw, h2, simprocAttr, -Nat.reduceSubDiff]) <;> (repeat (refine (aw_draw (by kernel_rfl)).2 ?_; simp -dsimp (disch := first | omega | (simp only [hw, h2, LR] <;> omega) | fail) only [push_cast, hw, h2, simprocAttr, -Nat.reduceSubDiff]))
      refine ih (i + 1) _ (by omega) ⟨h, hM⟩ ?_
      simp -dsimp (disch := first | omega | (simp only [wr_id, LR] <;> omega) | fail) only [push_cast, wr_id, simprocAttr, -Nat.reduceSubDiff]
    · rw [show askB f.st.w p.wait p.ask = false by unfold askB; rw [decide_eq_true hw2, cond_true]; exact decide_eq_false h2, Bool.false_and] at hM
      (simp -dsimp (disch := first | omega | (simp only [hw, h2, hM, LR] <;> omega) | fail) only [push_cast, hw, h2, hM, simprocAttr, -Nat.reduceSubDiff]) <;> (repeat (refine (aw_draw (by kernel_rfl)).2 ?_; simp -dsimp (disch := first | omega | (simp only [hw, h2, hM, LR] <;> omega) | fail) only [push_cast, hw, h2, hM, simprocAttr, -Nat.reduceSubDiff]))
end Go.Proofs.YtkkmgjhfjhcdmaaGreatDoor.Mx

/- Fetches copied; new worlds. -/
namespace Go.Proofs.YtkkmgjhfjhcdmaaGreatDoor.Mx
set_option linter.all false
open Go Go.RowKit Go.Proofs
set_option linter.unusedSimpArgs false
theorem len_take_le {α : Type} (l : List α) {i : Nat} (h : i ≤ l.length) : (l.take i).length = i := by rw [List.length_take]; omega
def E84 : Env := { T := T0, kp := look [(0, [0]), (1, [1, 2]), (2, [1, 2, 3]), (3, [1, 2, 3, 4]), (4, [1, 2, 3, 4]), (5, [1, 2, 3, 4]), (6, [1, 2, 3, 4, 5]), (7, [1, 2, 3, 4, 5]), (8, [2, 3])], dp := look2 [(1, [[], [0], [], [2], [], [4], [], [6], [6, 7], [0, 1, 2, 3, 4, 5, 6, 7, 8], [], [0, 1, 2, 3, 4, 5, 6, 7, 8, 9, 10]])] }
attribute [local push_cast] E84
set_option maxHeartbeats 1000000 in
theorem l7Copy (f : Fetch) (hf : okFetch f) : Does Tryz.prog 84 [.ag (fetchC false f)] (.ag (fetchC true f), []) := by
  refine does_of (E := E84) (rs := [.cell 2 53]) (lent := []) tOk rfl Tryz.func84 rfl (by decide) rfl rfl (Nat.le_of_ble_eq_true rfl) (Nat.le_of_ble_eq_true rfl) ?_
  have hl := hf.2.2.1
  obtain ⟨C, hC⟩ : ∃ C, C = fetchC true f := ⟨_, rfl⟩
  rw [← hC]
  (simp -dsimp (disch := first | omega | (simp only [LR] <;> omega) | fail) only [push_cast, simprocAttr, -Nat.reduceSubDiff]) <;> (repeat (refine (aw_draw (by kernel_rfl)).2 ?_; simp -dsimp (disch := first | omega | (simp only [LR] <;> omega) | fail) only [push_cast, simprocAttr, -Nat.reduceSubDiff]))
  refine callC (l4Copy f.st hf.2.1) ?_
  (simp -dsimp (disch := first | omega | (simp only [LR] <;> omega) | fail) only [push_cast, simprocAttr, -Nat.reduceSubDiff]) <;> (repeat (refine (aw_draw (by kernel_rfl)).2 ?_; simp -dsimp (disch := first | omega | (simp only [LR] <;> omega) | fail) only [push_cast, simprocAttr, -Nat.reduceSubDiff]))
  refine loop_ind (α := Nat) (fun i => i ≤ f.Q.length) (fun i => ⟨[(1, .pt 1 0 0), (2, .pt 2 0 0), (3, .pt 6 0 0), (4, .sc (.int .i64 i))],
    [(1, .bx (fetchC false f)), (2, .bx [.sc (.string ⟨#[]⟩), .sc (.int .i64 0), .sc (.bool false), .sc (.int .i64 0), .sc (.int .i64 0), .ow 3 0 0, .ow 4 0 0, .ow 5 0 0]), (3, .ar 2 0 []), (4, .ar 1 0 []), (5, .ar 5 0 []),
     (6, .bx [.sc (.string f.nm), .sc (.int .i64 f.now), .sc (.bool f.full), .sc (.int .i64 f.st.w), .sc (.int .i64 f.st.r), .ow 7 0 f.st.I.length, .ow 8 0 f.st.P.length, .ow 9 0 i]), (7, .ar 2 0 (f.st.I.map (itemC true))), (8, .ar 1 0 (f.st.P.map strR)), (9, .ar 5 0 ((f.Q.take i).map (peerC true)))], 10⟩) (fun i => f.Q.length - i) 0 (Nat.zero_le _) ?_ ?_
  · simp -dsimp (disch := first | omega | (simp only [List.take_zero, LR] <;> omega) | fail) only [push_cast, List.take_zero, simprocAttr, -Nat.reduceSubDiff]
  intro i hi ih
  by_cases h : i < f.Q.length
  · obtain ⟨p, hx⟩ := ex_get h
    have hpN := (hf.2.2.2 p (List.mem_of_getElem? hx)).2.1
    have hq := len_take_le f.Q hi
    have hst := take_step hx
    (simp -dsimp (disch := first | omega | (simp only [hx, hq, LR] <;> omega) | fail) only [push_cast, hx, hq, simprocAttr, -Nat.reduceSubDiff]) <;> (repeat (refine (aw_draw (by kernel_rfl)).2 ?_; simp -dsimp (disch := first | omega | (simp only [hx, hq, LR] <;> omega) | fail) only [push_cast, hx, hq, simprocAttr, -Nat.reduceSubDiff]))
    refine ih (i + 1) _ (by omega) h ?_
    simp -dsimp (disch := first | omega | (simp only [wr_id, hst, List.map_append, LR] <;> omega) | fail) only [push_cast, wr_id, hst, List.map_append, simprocAttr, -Nat.reduceSubDiff]
  · have ht : f.Q.take i = f.Q := List.take_of_length_le (by omega)
    have hi : i = f.Q.length := by omega
    (simp -dsimp (disch := first | omega | (simp only [ht, hi, hC, List.take_length, LR] <;> omega) | fail) only [push_cast, ht, hi, hC, List.take_length, simprocAttr, -Nat.reduceSubDiff]) <;> (repeat (refine (aw_draw (by kernel_rfl)).2 ?_; simp -dsimp (disch := first | omega | (simp only [ht, hi, hC, List.take_length, LR] <;> omega) | fail) only [push_cast, ht, hi, hC, List.take_length, simprocAttr, -Nat.reduceSubDiff]))
def E91 : Env := { T := T0, kp := look [(0, [0]), (1, [1, 2]), (2, [1, 2]), (3, [1, 2, 3]), (4, [1, 2, 3, 15, 16, 17]), (5, [1, 2, 3, 15, 16, 17]), (6, [1, 2, 3, 4, 5, 15, 16, 17]), (7, [1, 2, 3, 4, 5, 15, 16, 17]), (8, [1, 2, 3, 15, 16, 17]), (9, [1, 2, 3]), (10, [1, 2])] }
attribute [local push_cast] E91
set_option maxHeartbeats 1000000 in
theorem copyFetch (f : Fetch) (hf : okFetch f) : Does Tryz.prog 91 [.ag (fetchC false f)] (.ag (fetchC true f), []) := by
  refine does_of (E := E91) (rs := [.cell 2 53]) (lent := []) tOk rfl Tryz.func91 rfl (by decide) rfl rfl (Nat.le_of_ble_eq_true rfl) (Nat.le_of_ble_eq_true rfl) ?_
  have hl := hf.2.2.1
  obtain ⟨C, hC⟩ : ∃ C, C = fetchC true f := ⟨_, rfl⟩
  rw [← hC]
  (simp -dsimp (disch := first | omega | (simp only [LR] <;> omega) | fail) only [push_cast, simprocAttr, -Nat.reduceSubDiff]) <;> (repeat (refine (aw_draw (by kernel_rfl)).2 ?_; simp -dsimp (disch := first | omega | (simp only [LR] <;> omega) | fail) only [push_cast, simprocAttr, -Nat.reduceSubDiff]))
  refine callC (copyStore f.st hf.2.1) ?_
  obtain ⟨Z, hZ⟩ : ∃ Z : Peer, Z = ⟨0, 0, 0, em, []⟩ := ⟨_, rfl⟩
  (simp -dsimp (disch := first | omega | (simp only [LR] <;> omega) | fail) only [push_cast, simprocAttr, -Nat.reduceSubDiff]) <;> (repeat (refine (aw_draw (by kernel_rfl)).2 ?_; simp -dsimp (disch := first | omega | (simp only [LR] <;> omega) | fail) only [push_cast, simprocAttr, -Nat.reduceSubDiff]))
  refine loop_ind (α := Nat) (fun i => i ≤ f.Q.length) (fun i => ⟨[(1, .pt 1 0 0), (2, .pt 4 0 0), (3, .ow 8 0 f.Q.length), (15, .sl false 5 (f.Q.map (peerC false))), (16, .sc (.int .i64 f.Q.length)), (17, .sc (.int .i64 i))],
    [(1, .bx [.sc (.string f.nm), .sc (.int .i64 f.now), .sc (.bool f.full), .sc (.int .i64 f.st.w), .sc (.int .i64 f.st.r), .ow 2 0 f.st.I.length, .ow 3 0 f.st.P.length, .sl false 5 (f.Q.map (peerC false))]), (2, .ar 2 0 (f.st.I.map (itemC true))), (3, .ar 1 0 (f.st.P.map strR)),
     (4, .bx [.sc (.string ⟨#[]⟩), .sc (.int .i64 0), .sc (.bool false), .sc (.int .i64 0), .sc (.int .i64 0), .ow 5 0 0, .ow 6 0 0, .ow 7 0 0]), (5, .ar 2 0 []), (6, .ar 1 0 []), (7, .ar 5 0 []),
     (8, .ar 5 0 ((f.Q.take i ++ (List.replicate f.Q.length Z).drop i).map (peerC true)))], 9⟩) (fun i => f.Q.length - i) 0 (Nat.zero_le _) ?_ ?_
  · simp -dsimp (disch := first | omega | (simp only [List.take_zero, List.drop_zero, List.map_replicate, hZ, em, LR] <;> omega) | fail) only [push_cast, List.take_zero, List.drop_zero, List.map_replicate, hZ, em, simprocAttr, -Nat.reduceSubDiff]
  intro i hi ih
  by_cases h : i < f.Q.length
  · obtain ⟨p, hx⟩ := ex_get h
    have hpN := (hf.2.2.2 p (List.mem_of_getElem? hx)).2.1
    have hw := get_over (a := f.Q) (b := List.replicate f.Q.length Z) (by simp) hi
    rw [List.getElem?_replicate, if_pos h] at hw
    have ee := congrArg (List.map (peerC true)) (set_over (b := List.replicate f.Q.length Z) (by simp) hx)
    rw [List.map_set] at ee
    rw [show peerC true p = [.sc (.int .i64 p.lies), .sc (.int .i64 p.wait), .sc (.int .i64 p.last), .sc (.string p.ask), .sl true 1 (p.N.map strR)] from rfl] at ee
    (simp -dsimp (disch := first | omega | (simp only [hx, hw, LR] <;> omega) | fail) only [push_cast, hx, hw, simprocAttr, -Nat.reduceSubDiff]) <;> (repeat (refine (aw_draw (by kernel_rfl)).2 ?_; simp -dsimp (disch := first | omega | (simp only [hx, hw, LR] <;> omega) | fail) only [push_cast, hx, hw, simprocAttr, -Nat.reduceSubDiff]))
    refine ih (i + 1) _ (by omega) h ?_
    simp -dsimp (disch := first | omega | (simp only [wr_id, ee, LR] <;> omega) | fail) only [push_cast, wr_id, ee, simprocAttr, -Nat.reduceSubDiff]
  · have hi : i = f.Q.length := by omega
    subst hi
    (simp -dsimp (disch := first | omega | (simp only [hC, List.take_length, List.drop_eq_nil_of_le, LR] <;> omega) | fail) only [push_cast, hC, List.take_length, List.drop_eq_nil_of_le, simprocAttr, -Nat.reduceSubDiff]) <;> (repeat (refine (aw_draw (by kernel_rfl)).2 ?_; simp -dsimp (disch := first | omega | (simp only [hC, List.take_length, List.drop_eq_nil_of_le, LR] <;> omega) | fail) only [push_cast, hC, List.take_length, List.drop_eq_nil_of_le, simprocAttr, -Nat.reduceSubDiff]))
end Go.Proofs.YtkkmgjhfjhcdmaaGreatDoor.Mx

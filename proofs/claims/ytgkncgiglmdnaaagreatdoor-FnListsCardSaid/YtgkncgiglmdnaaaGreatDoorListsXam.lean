/- A machine over values for Go functions, proved sound, and functions run on it: texts F42, F22, V11, LLists. -/
import Derived.Test.YtgkncgiglmdnaaaGreatDoorListsXah
import Derived.Test.YtgkncgiglmdnaaaGreatDoorListsXaj
import Derived.Test.YtgkncgiglmdnaaaGreatDoorListsXal
/- Lists' texts read again: the program. -/
namespace Go.Proofs.YtgkncgiglmdnaaaGreatDoor.Mx
set_option linter.all false
open Go Go.RowKit Go.Proofs
set_option linter.unusedSimpArgs false
theorem pre_of {s p : List UInt8} (h : Lib.hasPrefix s p = true) : ∃ q, s = p ++ q ∧ Lib.trimPrefix s p = q := by
  unfold Lib.trimPrefix
  rw [if_pos h]
  obtain ⟨q, hq⟩ := List.isPrefixOf_iff_prefix.1 h
  exact ⟨q, hq.symm, by rw [← hq, List.drop_left' rfl]⟩
theorem pre_app {p q : List UInt8} : Lib.hasPrefix (p ++ q) p = true ∧ Lib.trimPrefix (p ++ q) p = q := by
  have h : Lib.hasPrefix (p ++ q) p = true := List.isPrefixOf_iff_prefix.2 ⟨q, rfl⟩
  refine ⟨h, ?_⟩
  unfold Lib.trimPrefix
  rw [if_pos h, List.drop_left' rfl]
theorem v_fin : ∀ d : _root_.Fin 16, Lib.Hx.v (Lib.Hx.digit d.val) = d.val := by decide +kernel
theorem hex_at {S : List Str} {L : List (List UInt8)} {m : Nat} (h : L = hexL S ++ [[]]) (hm : L.length = m + 1) : S.length = m ∧ ∀ j x, j < m → L[j]? = some x → ∃ s, S[j]? = some s ∧ x = Lib.Hx.encode (bt s) := by
  have hl : S.length = m := by
    rw [h, List.length_append, hexL, List.length_map] at hm
    simpa using hm
  refine ⟨hl, fun j x hj hx => ?_⟩
  have hh : (hexL S).length = S.length := by unfold hexL; rw [List.length_map]
  rw [h, List.getElem?_append_left (by omega)] at hx
  unfold hexL at hx
  rw [List.getElem?_map] at hx
  cases hs : S[j]? with
  | none => rw [hs] at hx; cases hx
  | some s => rw [hs] at hx; cases hx; exact ⟨s, rfl, rfl⟩
theorem dec_enc : ∀ l : List UInt8, Lib.Hx.decode (Lib.Hx.encode l) = (l, .ok)
  | [] => by rw [show Lib.Hx.encode [] = [] from rfl, Lib.Hx.decode_nil]
  | b :: r => by
    have hb : b.toNat < 256 := b.toNat_lt
    have h1 := v_fin ⟨b.toNat / 16, by omega⟩
    have h2 := v_fin ⟨b.toNat % 16, by omega⟩
    simp only at h1 h2
    rw [show Lib.Hx.encode (b :: r) = Lib.Hx.digit (b.toNat / 16) :: Lib.Hx.digit (b.toNat % 16) :: Lib.Hx.encode r from rfl, Lib.Hx.decode_two, h1, h2, if_neg (by omega), if_neg (by omega), dec_enc r]
    have : b.toNat / 16 * 16 + b.toNat % 16 = b.toNat := by omega
    rw [this]
    simp
theorem decL_hex {S : List Str} : (hexL S).map (fun x => stB (Lib.Hx.decode x).1) = S := by
  unfold hexL
  rw [List.map_map]
  conv => rhs; rw [← List.map_id S]
  apply List.map_congr_left
  intro x _
  show stB (Lib.Hx.decode (Lib.Hx.encode (bt x))).1 = x
  rw [dec_enc, stB_bt]
def E19 : Env := { T := T0, kp := look [(0, [0, 1]), (1, [0, 1, 4]), (2, [0, 1, 4, 6]), (3, [0, 1, 4, 6, 7, 8]), (4, [4]), (5, [0, 1, 4, 6, 7]), (6, [0, 1, 4, 6, 9, 10]), (7, [4]), (8, [0, 1, 4, 6, 9]), (9, [0, 1, 4, 6, 11]), (10, [0, 1, 4, 11, 56, 57, 58]), (11, [0, 1, 4, 11, 56, 57, 58]), (12, [0, 1, 4, 11, 13, 56, 57, 58]), (13, [0, 1, 4, 11, 14, 15, 56, 57, 58]), (14, [4]), (15, [0, 1, 4, 11, 14, 56, 57, 58]), (16, [0, 1, 4, 11, 56, 57, 58]), (17, [0, 1, 4, 11]), (18, [4]), (19, [4, 11])] }
attribute [local push_cast] E19
set_option maxRecDepth 20000 in
set_option maxHeartbeats 1000000 in
theorem implReadList (t : Str) (w : Int) (ht : t.size ≤ 10000000) : Does Tryz.prog 19 [.sc (.string t), .sc (.int .i64 w)] (.tu [.ag (lstC true (readL t w).1), .sc (.bool (readL t w).2)], []) := by
  refine does_of (E := E19) (rs := [.cell 4 27, .tmp 5]) (lent := []) tOk rfl Tryz.func19 rfl (by decide) rfl rfl (Nat.le_of_ble_eq_true rfl) (Nat.le_of_ble_eq_true rfl) ?_
  obtain ⟨M, hM⟩ : ∃ M, M = readL t w := ⟨_, rfl⟩
  rw [← hM]
  obtain ⟨K, hK⟩ : ∃ K, K = cutL 10 (bt t) := ⟨_, rfl⟩
  have bad : (∀ l, okLs l w = true → stB (formB l) = t → K = (sizB ++ Lib.decDigits l.sz.toNat) :: (hexL l.S ++ [[]]) → False) → M = ((⟨0, []⟩ : Lst), false) := fun h => by
    rw [hM]
    exact read_no fun l h1 h2 => h l h1 h2 (by rw [hK, ← h2, bt_stB, cut_form])
  have hKn := cutF_len 10 (bt t) [] []
  have hKs := cutF_sz 10 (bt t) [] [] t.size (by simp) (by rw [bt_len]; simp)
  have hKe := cutF_ne 10 (bt t) [] []
  rw [show cutF 10 [] [] (bt t) = cutL 10 (bt t) from rfl, ← hK] at hKn hKs hKe
  rw [bt_len, List.length_nil] at hKn
  have hsp := splitNl t ht
  rw [← hK] at hsp
  (simp -dsimp (disch := first | omega | (simp only [List.length_cons, List.length_nil, List.length_map, List.length_append, List.length_take, List.length_drop, List.length_replicate, List.length_set, mkG_len] <;> omega) | fail) only [push_cast, if_pos, decide_eq_true, decide_eq_false, simprocAttr, -Nat.reduceSubDiff]) <;> (repeat (refine (aw_draw (by kernel_rfl)).2 ?_; simp -dsimp (disch := first | omega | (simp only [List.length_cons, List.length_nil, List.length_map, List.length_append, List.length_take, List.length_drop, List.length_replicate, List.length_set, mkG_len] <;> omega) | fail) only [push_cast, if_pos, decide_eq_true, decide_eq_false, simprocAttr, -Nat.reduceSubDiff]))
  refine callC hsp ?_
  obtain ⟨a, L, hc⟩ : ∃ a L, K = a :: L := by
    cases K with
    | nil => exact (hKe rfl).elim
    | cons a L => exact ⟨a, L, rfl⟩
  rw [hc] at bad hKn hKs ⊢
  have has := hKs a (List.mem_cons_self ..)
  (simp -dsimp (disch := first | omega | (simp only [List.length_cons, List.length_nil, List.length_map, List.length_append, List.length_take, List.length_drop, List.length_replicate, List.length_set, mkG_len] <;> omega) | fail) only [push_cast, if_pos, decide_eq_true, decide_eq_false, simprocAttr, -Nat.reduceSubDiff]) <;> (repeat (refine (aw_draw (by kernel_rfl)).2 ?_; simp -dsimp (disch := first | omega | (simp only [List.length_cons, List.length_nil, List.length_map, List.length_append, List.length_take, List.length_drop, List.length_replicate, List.length_set, mkG_len] <;> omega) | fail) only [push_cast, if_pos, decide_eq_true, decide_eq_false, simprocAttr, -Nat.reduceSubDiff]))
  refine callC (cutPrefix (stB a) ⟨#[115, 105, 122, 101, 32]⟩) ?_
  rw [bt_stB, show bt ⟨#[115, 105, 122, 101, 32]⟩ = sizB from rfl]
  cases hp : Lib.hasPrefix a sizB with
  | false =>
    have hM := bad fun l _ _ h => by
      injection h with h1 h2
      rw [h1, pre_app.1] at hp; cases hp
    subst hM
    (simp -dsimp (disch := first | omega | (simp only [List.length_cons, List.length_nil, List.length_map, List.length_append, List.length_take, List.length_drop, List.length_replicate, List.length_set, mkG_len] <;> omega) | fail) only [push_cast, if_pos, decide_eq_true, decide_eq_false, simprocAttr, -Nat.reduceSubDiff]) <;> (repeat (refine (aw_draw (by kernel_rfl)).2 ?_; simp -dsimp (disch := first | omega | (simp only [List.length_cons, List.length_nil, List.length_map, List.length_append, List.length_take, List.length_drop, List.length_replicate, List.length_set, mkG_len] <;> omega) | fail) only [push_cast, if_pos, decide_eq_true, decide_eq_false, simprocAttr, -Nat.reduceSubDiff]))
  | true =>
  obtain ⟨q, hq, hq2⟩ := pre_of hp
  rw [hq2]
  have hql : a.length = 5 + q.length := by rw [hq, List.length_append]; rfl
  -- the last line
  obtain ⟨b, hb⟩ : ∃ b, (a :: L)[L.length]? = some b := ex_get (by simp)
  have hbm : (([AV.sc (Value.string (stB a))] :: List.map strR (List.map stB L)) : List Row)[L.length]? = some [AV.sc (Value.string (stB b))] := by
    show (((a :: L).map stB).map strR)[L.length]? = _
    rw [List.getElem?_map, List.getElem?_map, hb]; rfl
  rw [List.length_cons] at hKn
  have hLn : L.length ≤ 10000000 := by omega
  have e0 : wr .i64 ((L.length : Int) + 1 - 1) = (L.length : Int) := by rw [show (L.length : Int) + 1 - 1 = L.length by omega]; exact wr_id (by omega) (by omega)
  by_cases hb0 : stB b = ⟨#[]⟩
  rotate_left
  · have hM := bad fun l _ _ h => by
      rw [h] at hb
      injection h with h1 h2
      rw [h2, List.length_append, List.length_cons, List.length_nil, List.getElem?_cons_succ, List.getElem?_append_right (by omega)] at hb
      simp at hb
      exact hb0 (by rw [← hb]; rfl)
    subst hM
    (simp -dsimp (disch := first | omega | (simp only [hbm, e0, hb0, wr_id, List.length_cons, List.length_nil, List.length_map, List.length_append, List.length_take, List.length_drop, List.length_replicate, List.length_set, mkG_len] <;> omega) | fail) only [push_cast, if_pos, decide_eq_true, decide_eq_false, hbm, e0, hb0, wr_id, simprocAttr, -Nat.reduceSubDiff]) <;> (repeat (refine (aw_draw (by kernel_rfl)).2 ?_; simp -dsimp (disch := first | omega | (simp only [hbm, e0, hb0, wr_id, List.length_cons, List.length_nil, List.length_map, List.length_append, List.length_take, List.length_drop, List.length_replicate, List.length_set, mkG_len] <;> omega) | fail) only [push_cast, if_pos, decide_eq_true, decide_eq_false, hbm, e0, hb0, wr_id, simprocAttr, -Nat.reduceSubDiff]))
  by_cases h4 : 4 < q.length
  · have hM := bad fun l hl _ h => by
      obtain ⟨_, _, s0, s3, _, _⟩ := okLs_up hl
      injection h with h1 h2
      have h3 := dec_len4 (n := l.sz.toNat) (by omega)
      rw [h1] at hql
      rw [List.length_append, show sizB.length = 5 from rfl] at hql
      omega
    subst hM
    (simp -dsimp (disch := first | omega | (simp only [hbm, e0, hb0, wr_id, stB_size, h4, List.length_cons, List.length_nil, List.length_map, List.length_append, List.length_take, List.length_drop, List.length_replicate, List.length_set, mkG_len] <;> omega) | fail) only [push_cast, if_pos, decide_eq_true, decide_eq_false, hbm, e0, hb0, wr_id, stB_size, h4, simprocAttr, -Nat.reduceSubDiff]) <;> (repeat (refine (aw_draw (by kernel_rfl)).2 ?_; simp -dsimp (disch := first | omega | (simp only [hbm, e0, hb0, wr_id, stB_size, h4, List.length_cons, List.length_nil, List.length_map, List.length_append, List.length_take, List.length_drop, List.length_replicate, List.length_set, mkG_len] <;> omega) | fail) only [push_cast, if_pos, decide_eq_true, decide_eq_false, hbm, e0, hb0, wr_id, stB_size, h4, simprocAttr, -Nat.reduceSubDiff]))
  (simp -dsimp (disch := first | omega | (simp only [hbm, e0, hb0, wr_id, stB_size, h4, List.length_cons, List.length_nil, List.length_map, List.length_append, List.length_take, List.length_drop, List.length_replicate, List.length_set, mkG_len] <;> omega) | fail) only [push_cast, if_pos, decide_eq_true, decide_eq_false, hbm, e0, hb0, wr_id, stB_size, h4, simprocAttr, -Nat.reduceSubDiff]) <;> (repeat (refine (aw_draw (by kernel_rfl)).2 ?_; simp -dsimp (disch := first | omega | (simp only [hbm, e0, hb0, wr_id, stB_size, h4, List.length_cons, List.length_nil, List.length_map, List.length_append, List.length_take, List.length_drop, List.length_replicate, List.length_set, mkG_len] <;> omega) | fail) only [push_cast, if_pos, decide_eq_true, decide_eq_false, hbm, e0, hb0, wr_id, stB_size, h4, simprocAttr, -Nat.reduceSubDiff]))
  cases hA : Lib.atoi q with
  | none =>
    have hM := bad fun l _ _ h => by
      injection h with h1 h2
      rw [hq] at h1
      rw [List.append_cancel_left h1, atoi_dec] at hA
      cases hA
    subst hM
    refine callC (atoi_no (stB q) (by rw [stB_size]; omega) (by rw [bt_stB]; exact hA)) ?_
    (simp -dsimp (disch := first | omega | (simp only [isC, pNil, List.length_cons, List.length_nil, List.length_map, List.length_append, List.length_take, List.length_drop, List.length_replicate, List.length_set, mkG_len] <;> omega) | fail) only [push_cast, if_pos, decide_eq_true, decide_eq_false, isC, pNil, simprocAttr, -Nat.reduceSubDiff]) <;> (repeat (refine (aw_draw (by kernel_rfl)).2 ?_; simp -dsimp (disch := first | omega | (simp only [isC, pNil, List.length_cons, List.length_nil, List.length_map, List.length_append, List.length_take, List.length_drop, List.length_replicate, List.length_set, mkG_len] <;> omega) | fail) only [push_cast, if_pos, decide_eq_true, decide_eq_false, isC, pNil, simprocAttr, -Nat.reduceSubDiff]))
  | some n =>
  refine callC (atoi_yes (stB q) n (by rw [stB_size]; omega) (by rw [bt_stB]; exact hA)) ?_
  have hL0 : L.length ≠ 0 := fun h0 => by
    rw [h0] at hb
    have hb : a = b := Option.some.inj hb
    have := congrArg ByteArray.size hb0
    rw [stB_size, ← hb, hql] at this
    have e : (⟨#[]⟩ : ByteArray).size = 0 := rfl
    omega
  obtain ⟨m, hm⟩ : ∃ m, L.length = m + 1 := ⟨L.length - 1, by omega⟩
  have e1 : wr .i64 ((m : Int) + 1 + 1 - 1) = ((m + 1 : Nat) : Int) := by rw [show (m : Int) + 1 + 1 - 1 = ((m + 1 : Nat) : Int) by omega]; exact wr_id (by omega) (by omega)
  have e2 : ((m : Int) + 1 - 1).toNat = m := by omega
  rw [hm]
  (simp -dsimp (disch := first | omega | (simp only [hm, e1, e2, wr_id, isC, pNil, List.length_cons, List.length_nil, List.length_map, List.length_append, List.length_take, List.length_drop, List.length_replicate, List.length_set, mkG_len] <;> omega) | fail) only [push_cast, if_pos, decide_eq_true, decide_eq_false, hm, e1, e2, wr_id, isC, pNil, simprocAttr, -Nat.reduceSubDiff]) <;> (repeat (refine (aw_draw (by kernel_rfl)).2 ?_; simp -dsimp (disch := first | omega | (simp only [hm, e1, e2, wr_id, isC, pNil, List.length_cons, List.length_nil, List.length_map, List.length_append, List.length_take, List.length_drop, List.length_replicate, List.length_set, mkG_len] <;> omega) | fail) only [push_cast, if_pos, decide_eq_true, decide_eq_false, hm, e1, e2, wr_id, isC, pNil, simprocAttr, -Nat.reduceSubDiff]))
  have hLx : ∀ l : Lst, a :: L = (sizB ++ Lib.decDigits l.sz.toNat) :: (hexL l.S ++ [[]]) → L = hexL l.S ++ [[]] := fun l h => by injection h
  refine loop_ind (α := Nat) (fun j => j ≤ m ∧ j ≤ 376)
    (fun j => ⟨[(0, .sc (.string t)), (1, .sc (.int .i64 w)), (4, .pt 1 0 0), (11, .pt 3 0 0), (56, .ow 5 1 m), (57, .sc (.int .i64 m)), (58, .sc (.int .i64 j))],
      [(1, .bx [.sc (.int .i64 0), .ow 2 0 0]), (2, .ar 1 0 []), (3, .bx [.sc (.int .i64 n), .ow 4 0 ((L.take j).map fun x => stB (Lib.Hx.decode x).1).length]), (4, .ar 1 0 (((L.take j).map fun x => stB (Lib.Hx.decode x).1).map strR)), (5, .ar 1 0 ([.sc (.string (stB a))] :: (L.map stB).map strR))], 6⟩) (fun j => m - j) 0 ⟨Nat.zero_le _, Nat.zero_le _⟩ ?_ ?_
  · simp -dsimp (disch := first | omega | (simp only [List.take_zero, List.map_nil, List.length_cons, List.length_nil, List.length_map, List.length_append, List.length_take, List.length_drop, List.length_replicate, List.length_set, mkG_len] <;> omega) | fail) only [push_cast, if_pos, decide_eq_true, decide_eq_false, List.take_zero, List.map_nil, simprocAttr, -Nat.reduceSubDiff]
  rintro j ⟨hj, hj3⟩ ih
  have hjl : ((L.take j).map fun x => stB (Lib.Hx.decode x).1).length = j := by rw [List.length_map, List.length_take]; omega
  obtain ⟨D, hD⟩ : ∃ D, D = ((L.take j).map fun x => stB (Lib.Hx.decode x).1) := ⟨_, rfl⟩
  by_cases h : j < m
  · obtain ⟨x, hx⟩ := ex_get (show j < L.length by omega)
    have hxs := hKs x (List.mem_cons_of_mem _ (List.mem_of_getElem? hx))
    have hst : ((L.take (j + 1)).map fun x => stB (Lib.Hx.decode x).1) = D ++ [stB (Lib.Hx.decode x).1] := by rw [take_step hx, List.map_append, hD]; rfl
    have hx1 : (([AV.sc (Value.string (stB a))] :: List.map strR (List.map stB L)) : List Row)[1 + j]? = some [AV.sc (Value.string (stB x))] := by
      rw [Nat.add_comm, List.getElem?_cons_succ, List.getElem?_map, List.getElem?_map, hx]; rfl
    have hdl := Lib.Hx.decode_len x
    rw [← hD] at hjl ⊢
    (simp -dsimp (disch := first | omega | (simp only [hx, hx1, h, List.length_cons, List.length_nil, List.length_map, List.length_append, List.length_take, List.length_drop, List.length_replicate, List.length_set, mkG_len] <;> omega) | fail) only [push_cast, if_pos, decide_eq_true, decide_eq_false, hx, hx1, h, simprocAttr, -Nat.reduceSubDiff]) <;> (repeat (refine (aw_draw (by kernel_rfl)).2 ?_; simp -dsimp (disch := first | omega | (simp only [hx, hx1, h, List.length_cons, List.length_nil, List.length_map, List.length_append, List.length_take, List.length_drop, List.length_replicate, List.length_set, mkG_len] <;> omega) | fail) only [push_cast, if_pos, decide_eq_true, decide_eq_false, hx, hx1, h, simprocAttr, -Nat.reduceSubDiff]))
    refine callC (hexDec (stB x) (by rw [stB_size]; omega)) ?_
    rw [bt_stB]
    cases hd : (Lib.Hx.decode x).2 with
    | ok =>
      rw [show decA x = .sc .nilIface by unfold decA; rw [hd]]
      by_cases h7 : 375 < j
      · have hM := bad fun l hl _ h => by
          obtain ⟨h1, _⟩ := hex_at (hLx l h) hm
          obtain ⟨_, _, _, _, hn, _⟩ := okLs_up hl
          omega
        subst hM
        (simp -dsimp (disch := first | omega | (simp only [isC, pNil, hjl, h7, List.length_cons, List.length_nil, List.length_map, List.length_append, List.length_take, List.length_drop, List.length_replicate, List.length_set, mkG_len] <;> omega) | fail) only [push_cast, if_pos, decide_eq_true, decide_eq_false, isC, pNil, hjl, h7, simprocAttr, -Nat.reduceSubDiff]) <;> (repeat (refine (aw_draw (by kernel_rfl)).2 ?_; simp -dsimp (disch := first | omega | (simp only [isC, pNil, hjl, h7, List.length_cons, List.length_nil, List.length_map, List.length_append, List.length_take, List.length_drop, List.length_replicate, List.length_set, mkG_len] <;> omega) | fail) only [push_cast, if_pos, decide_eq_true, decide_eq_false, isC, pNil, hjl, h7, simprocAttr, -Nat.reduceSubDiff]))
      · (simp -dsimp (disch := first | omega | (simp only [isC, pNil, hjl, h7, wr_id, List.length_cons, List.length_nil, List.length_map, List.length_append, List.length_take, List.length_drop, List.length_replicate, List.length_set, mkG_len] <;> omega) | fail) only [push_cast, if_pos, decide_eq_true, decide_eq_false, isC, pNil, hjl, h7, wr_id, simprocAttr, -Nat.reduceSubDiff]) <;> (repeat (refine (aw_draw (by kernel_rfl)).2 ?_; simp -dsimp (disch := first | omega | (simp only [isC, pNil, hjl, h7, wr_id, List.length_cons, List.length_nil, List.length_map, List.length_append, List.length_take, List.length_drop, List.length_replicate, List.length_set, mkG_len] <;> omega) | fail) only [push_cast, if_pos, decide_eq_true, decide_eq_false, isC, pNil, hjl, h7, wr_id, simprocAttr, -Nat.reduceSubDiff]))
        refine ih (j + 1) _ (by omega) ⟨h, by omega⟩ ?_
        rw [hst]
        simp -dsimp (disch := first | omega | (simp only [wr_id, List.map_append, List.length_append, List.length_cons, List.length_nil, List.map_cons, List.map_nil, hjl, stB, List.length_cons, List.length_nil, List.length_map, List.length_append, List.length_take, List.length_drop, List.length_replicate, List.length_set, mkG_len] <;> omega) | fail) only [push_cast, if_pos, decide_eq_true, decide_eq_false, wr_id, List.map_append, List.length_append, List.length_cons, List.length_nil, List.map_cons, List.map_nil, hjl, stB, simprocAttr, -Nat.reduceSubDiff]
    | bad c =>
      have hM := bad fun l hl _ h3 => by
        obtain ⟨_, h2⟩ := hex_at (hLx l h3) hm
        obtain ⟨s, _, hs⟩ := h2 j x h hx
        rw [hs, dec_enc] at hd; cases hd
      subst hM
      rw [show decA x = .er by unfold decA; rw [hd]]
      (simp -dsimp (disch := first | omega | (simp only [isC, pNil, hjl, List.length_cons, List.length_nil, List.length_map, List.length_append, List.length_take, List.length_drop, List.length_replicate, List.length_set, mkG_len] <;> omega) | fail) only [push_cast, if_pos, decide_eq_true, decide_eq_false, isC, pNil, hjl, simprocAttr, -Nat.reduceSubDiff]) <;> (repeat (refine (aw_draw (by kernel_rfl)).2 ?_; simp -dsimp (disch := first | omega | (simp only [isC, pNil, hjl, List.length_cons, List.length_nil, List.length_map, List.length_append, List.length_take, List.length_drop, List.length_replicate, List.length_set, mkG_len] <;> omega) | fail) only [push_cast, if_pos, decide_eq_true, decide_eq_false, isC, pNil, hjl, simprocAttr, -Nat.reduceSubDiff]))
    | odd =>
      have hM := bad fun l hl _ h3 => by
        obtain ⟨_, h2⟩ := hex_at (hLx l h3) hm
        obtain ⟨s, _, hs⟩ := h2 j x h hx
        rw [hs, dec_enc] at hd; cases hd
      subst hM
      rw [show decA x = .er by unfold decA; rw [hd]]
      (simp -dsimp (disch := first | omega | (simp only [isC, pNil, hjl, List.length_cons, List.length_nil, List.length_map, List.length_append, List.length_take, List.length_drop, List.length_replicate, List.length_set, mkG_len] <;> omega) | fail) only [push_cast, if_pos, decide_eq_true, decide_eq_false, isC, pNil, hjl, simprocAttr, -Nat.reduceSubDiff]) <;> (repeat (refine (aw_draw (by kernel_rfl)).2 ?_; simp -dsimp (disch := first | omega | (simp only [isC, pNil, hjl, List.length_cons, List.length_nil, List.length_map, List.length_append, List.length_take, List.length_drop, List.length_replicate, List.length_set, mkG_len] <;> omega) | fail) only [push_cast, if_pos, decide_eq_true, decide_eq_false, isC, pNil, hjl, simprocAttr, -Nat.reduceSubDiff]))
  · have hj : j = m := by omega
    rw [← hD] at hjl ⊢
    (simp -dsimp (disch := first | omega | (simp only [h, List.length_cons, List.length_nil, List.length_map, List.length_append, List.length_take, List.length_drop, List.length_replicate, List.length_set, mkG_len] <;> omega) | fail) only [push_cast, if_pos, decide_eq_true, decide_eq_false, h, simprocAttr, -Nat.reduceSubDiff]) <;> (repeat (refine (aw_draw (by kernel_rfl)).2 ?_; simp -dsimp (disch := first | omega | (simp only [h, List.length_cons, List.length_nil, List.length_map, List.length_append, List.length_take, List.length_drop, List.length_replicate, List.length_set, mkG_len] <;> omega) | fail) only [push_cast, if_pos, decide_eq_true, decide_eq_false, h, simprocAttr, -Nat.reduceSubDiff]))
    refine callC (implFormList ⟨n, D⟩ w (by show D.length ≤ _; omega)) ?_
    by_cases e : formL ⟨n, D⟩ w = t
    · have h5 : 1 ≤ t.size := by
        have := hKs a (List.mem_cons_self ..)
        omega
      obtain ⟨o1, o2⟩ := formL_ok e h5
      have hM : M = (⟨n, D⟩, true) := by rw [hM]; exact read_of o1 o2
      subst hM
      (simp -dsimp (disch := first | omega | (simp only [e, hjl, List.length_cons, List.length_nil, List.length_map, List.length_append, List.length_take, List.length_drop, List.length_replicate, List.length_set, mkG_len] <;> omega) | fail) only [push_cast, if_pos, decide_eq_true, decide_eq_false, e, hjl, simprocAttr, -Nat.reduceSubDiff]) <;> (repeat (refine (aw_draw (by kernel_rfl)).2 ?_; simp -dsimp (disch := first | omega | (simp only [e, hjl, List.length_cons, List.length_nil, List.length_map, List.length_append, List.length_take, List.length_drop, List.length_replicate, List.length_set, mkG_len] <;> omega) | fail) only [push_cast, if_pos, decide_eq_true, decide_eq_false, e, hjl, simprocAttr, -Nat.reduceSubDiff]))
    · have hM := bad fun l hl hf h3 => by
        have h6 := hLx l h3
        have h7 : D = l.S := by
          obtain ⟨h8, _⟩ := hex_at h6 hm
          have hh : (hexL l.S).length = m := by unfold hexL; rw [List.length_map]; exact h8
          rw [hD, hj, h6, List.take_left' hh, decL_hex]
        have h9 : n = l.sz := by
          obtain ⟨_, _, s0, _, _, _⟩ := okLs_up hl
          injection h3 with h1 h2
          rw [hq] at h1
          rw [List.append_cancel_left h1, atoi_dec] at hA
          have := Option.some.inj hA
          omega
        apply e
        rw [h7, h9]
        unfold formL
        rw [if_pos hl]; exact hf
      subst hM
      (simp -dsimp (disch := first | omega | (simp only [e, hjl, List.length_cons, List.length_nil, List.length_map, List.length_append, List.length_take, List.length_drop, List.length_replicate, List.length_set, mkG_len] <;> omega) | fail) only [push_cast, if_pos, decide_eq_true, decide_eq_false, e, hjl, simprocAttr, -Nat.reduceSubDiff]) <;> (repeat (refine (aw_draw (by kernel_rfl)).2 ?_; simp -dsimp (disch := first | omega | (simp only [e, hjl, List.length_cons, List.length_nil, List.length_map, List.length_append, List.length_take, List.length_drop, List.length_replicate, List.length_set, mkG_len] <;> omega) | fail) only [push_cast, if_pos, decide_eq_true, decide_eq_false, e, hjl, simprocAttr, -Nat.reduceSubDiff]))
end Go.Proofs.YtgkncgiglmdnaaaGreatDoor.Mx

/- Helpers of the drawn laws: lists of texts held against each other. -/
namespace Go.Proofs.YtgkncgiglmdnaaaGreatDoor.Mx
set_option linter.all false
open Go Go.RowKit Go.Proofs
set_option linter.unusedSimpArgs false
def E76 : Env := { T := T0, kp := look [(0, [0, 1]), (1, [0, 1]), (2, []), (3, [0, 1]), (4, [0, 1, 5]), (5, [0, 1, 5]), (6, [0, 1, 5]), (7, []), (8, [])], dp := look2 [(6, [[], [], [0, 1], [0, 1, 2], [], [], [4, 5], [4, 5, 6], [0, 1, 2, 3, 4, 5, 6, 7]])] }
attribute [local push_cast] E76
theorem wTexts (l : List Str) (hl : l.length ≤ 2097152) : Does Tryz.prog 76 [.sl false 1 (l.map strR), .sl false 1 (l.map strR)] (.sc (.bool true), []) := by
  refine does_of (E := E76) (rs := [.tmp 4]) (lent := []) tOk rfl Tryz.func76 rfl (by decide) rfl rfl (Nat.le_of_ble_eq_true rfl) (Nat.le_of_ble_eq_true rfl) ?_
  (simp -dsimp (disch := first | omega | (simp only [List.length_cons, List.length_nil, List.length_map, List.length_append, List.length_take, List.length_drop, List.length_replicate, List.length_set, mkG_len] <;> omega) | fail) only [push_cast, if_pos, decide_eq_true, decide_eq_false, simprocAttr, -Nat.reduceSubDiff]) <;> (repeat (refine (aw_draw (by kernel_rfl)).2 ?_; simp -dsimp (disch := first | omega | (simp only [List.length_cons, List.length_nil, List.length_map, List.length_append, List.length_take, List.length_drop, List.length_replicate, List.length_set, mkG_len] <;> omega) | fail) only [push_cast, if_pos, decide_eq_true, decide_eq_false, simprocAttr, -Nat.reduceSubDiff]))
  refine loop_ind (α := Nat) (fun i => i ≤ l.length) (fun i => ⟨[(0, .sl false 1 (l.map strR)), (1, .sl false 1 (l.map strR)), (5, .sc (.int .i64 i))], [], 1⟩) (fun i => l.length - i) 0 (Nat.zero_le _) ?_ ?_
  · simp -dsimp (disch := first | omega | (simp only [List.length_cons, List.length_nil, List.length_map, List.length_append, List.length_take, List.length_drop, List.length_replicate, List.length_set, mkG_len] <;> omega) | fail) only [push_cast, if_pos, decide_eq_true, decide_eq_false, simprocAttr, -Nat.reduceSubDiff]
  intro i hi ih
  by_cases h : i < l.length
  · obtain ⟨x, hx⟩ := ex_get h
    (simp -dsimp (disch := first | omega | (simp only [hx, List.length_cons, List.length_nil, List.length_map, List.length_append, List.length_take, List.length_drop, List.length_replicate, List.length_set, mkG_len] <;> omega) | fail) only [push_cast, if_pos, decide_eq_true, decide_eq_false, hx, simprocAttr, -Nat.reduceSubDiff]) <;> (repeat (refine (aw_draw (by kernel_rfl)).2 ?_; simp -dsimp (disch := first | omega | (simp only [hx, List.length_cons, List.length_nil, List.length_map, List.length_append, List.length_take, List.length_drop, List.length_replicate, List.length_set, mkG_len] <;> omega) | fail) only [push_cast, if_pos, decide_eq_true, decide_eq_false, hx, simprocAttr, -Nat.reduceSubDiff]))
    refine ih (i + 1) _ (by omega) h ?_
    simp -dsimp (disch := first | omega | (simp only [wr_id, List.length_cons, List.length_nil, List.length_map, List.length_append, List.length_take, List.length_drop, List.length_replicate, List.length_set, mkG_len] <;> omega) | fail) only [push_cast, if_pos, decide_eq_true, decide_eq_false, wr_id, simprocAttr, -Nat.reduceSubDiff]
  · (simp -dsimp (disch := first | omega | (simp only [List.length_cons, List.length_nil, List.length_map, List.length_append, List.length_take, List.length_drop, List.length_replicate, List.length_set, mkG_len] <;> omega) | fail) only [push_cast, if_pos, decide_eq_true, decide_eq_false, simprocAttr, -Nat.reduceSubDiff]) <;> (repeat (refine (aw_draw (by kernel_rfl)).2 ?_; simp -dsimp (disch := first | omega | (simp only [List.length_cons, List.length_nil, List.length_map, List.length_append, List.length_take, List.length_drop, List.length_replicate, List.length_set, mkG_len] <;> omega) | fail) only [push_cast, if_pos, decide_eq_true, decide_eq_false, simprocAttr, -Nat.reduceSubDiff]))
end Go.Proofs.YtgkncgiglmdnaaaGreatDoor.Mx

/- What is described is built again: pure. -/
namespace Go.Proofs.YtgkncgiglmdnaaaGreatDoor.Mx
set_option linter.all false
open Go Go.RowKit
theorem jb_pieces {t : Str} (h : ¬ 3000 < t.size) : jb (piecesL t) = bt t := by
  unfold piecesL jb
  rw [if_neg h, List.flatMap_map]
  have hj := pc_join (bt t) []
  rw [List.nil_append] at hj
  have key : ∀ L : List (List UInt8), (L.flatMap fun a => bt (stB a)) = L.flatten := fun L => by
    induction L with
    | nil => rfl
    | cons a r ih => rw [List.flatMap_cons, ih, List.flatten_cons, bt_stB]
  rw [key, hj]
theorem bld_self (w : Int) : ∀ (P : List Str) (n : Nat), n + (jb P).length ≤ 3000 → bldB w n P (P.map fun p => sumS p w) = true
  | [], _, _ => rfl
  | p :: r, n, h => by
    have e : (jb (p :: r)).length = p.size + (jb r).length := by
      show (bt p ++ jb r).length = _
      rw [List.length_append, bt_len]
    rw [e] at h
    rw [List.map_cons, bldB, bld_self w r (n + p.size) (by omega)]
    simp; omega
theorem build_desc {t : Str} {w : Int} (h : ¬ 3000 < t.size) (hok : okLs (descL t w).1 w = true) : buildF (descL t w).1 (piecesL t) w = (t, true) := by
  have hw : inB w 1 8 = true := by
    obtain ⟨a, b, _⟩ := okLs_up hok
    exact decide_eq_true ⟨a, b⟩
  have hd : (descL t w).1 = ⟨t.size, (piecesL t).map fun p => sumS p w⟩ := by
    unfold descL
    rw [if_neg (by rintro (q | q); exact h q; rw [hw] at q; cases q)]
  have hj := jb_pieces h
  unfold buildF
  rw [hj, stB_bt]
  rw [if_pos ⟨hok, by rw [hd]; simp, by rw [hd]; exact bld_self w _ 0 (by rw [hj, bt_len]; omega), by rw [hd, bt_len], rfl⟩]
theorem buildD_ok {l : Lst} {ps : List Str} {w : Int} (h : (buildF l ps w).2 = true) : (descL (buildF l ps w).1 w).1 = l := by
  unfold buildF at h ⊢
  split
  · rename_i q; exact q.2.2.2.2
  · rename_i q; rw [if_neg q] at h; cases h
theorem read_form {u : Str} {v : Int} (h : (readL u v).2 = true) : formL (readL u v).1 v = u := by
  obtain ⟨h1, h2⟩ := read_ok h
  unfold formL
  rw [if_pos h1, h2]
end Go.Proofs.YtgkncgiglmdnaaaGreatDoor.Mx

/- The law FnLists runs. -/
namespace Go.Proofs.YtgkncgiglmdnaaaGreatDoor.Mx
set_option linter.all false
open Go Go.RowKit Go.Proofs
set_option linter.unusedSimpArgs false
def E16 : Env := { T := T0, kp := look [(0, [0, 1]), (1, [2, 3])] }
attribute [local push_cast] E16
theorem wList (a : Lst) (h : a.S.length ≤ 2097152) : Does Tryz.prog 16 [.ag (lstC false a), .ag (lstC false a)] (.sc (.bool true), []) := by
  refine does_of (E := E16) (rs := [.tmp 4]) (lent := []) tOk rfl Tryz.func16 rfl (by decide) rfl rfl (Nat.le_of_ble_eq_true rfl) (Nat.le_of_ble_eq_true rfl) ?_
  (simp -dsimp (disch := first | omega | (simp only [List.length_cons, List.length_nil, List.length_map, List.length_append, List.length_take, List.length_drop, List.length_replicate, List.length_set, mkG_len] <;> omega) | fail) only [push_cast, if_pos, decide_eq_true, decide_eq_false, simprocAttr, -Nat.reduceSubDiff]) <;> (repeat (refine (aw_draw (by kernel_rfl)).2 ?_; simp -dsimp (disch := first | omega | (simp only [List.length_cons, List.length_nil, List.length_map, List.length_append, List.length_take, List.length_drop, List.length_replicate, List.length_set, mkG_len] <;> omega) | fail) only [push_cast, if_pos, decide_eq_true, decide_eq_false, simprocAttr, -Nat.reduceSubDiff]))
  refine callC (wTexts a.S h) ?_
  (simp -dsimp (disch := first | omega | (simp only [List.length_cons, List.length_nil, List.length_map, List.length_append, List.length_take, List.length_drop, List.length_replicate, List.length_set, mkG_len] <;> omega) | fail) only [push_cast, if_pos, decide_eq_true, decide_eq_false, simprocAttr, -Nat.reduceSubDiff]) <;> (repeat (refine (aw_draw (by kernel_rfl)).2 ?_; simp -dsimp (disch := first | omega | (simp only [List.length_cons, List.length_nil, List.length_map, List.length_append, List.length_take, List.length_drop, List.length_replicate, List.length_set, mkG_len] <;> omega) | fail) only [push_cast, if_pos, decide_eq_true, decide_eq_false, simprocAttr, -Nat.reduceSubDiff]))
def E3 : Env := { T := T0, kp := look [(0, [0]), (1, [0]), (2, []), (3, [0]), (4, [0, 3, 4]), (5, [0, 3, 4, 5]), (6, [0, 3, 4, 5, 6]), (7, []), (8, [0, 3, 4, 5, 6]), (9, [0, 3, 4, 5, 6]), (10, [0, 3, 4, 5, 7, 8]), (11, [0, 3, 5, 7, 8, 9, 10]), (12, []), (13, [0]), (14, [0, 11, 12, 13]), (15, [0, 11, 12, 13, 14, 15]), (16, [0, 11, 13, 14, 15, 16, 17]), (17, []), (18, [0]), (19, [13, 18]), (20, [13, 18, 19, 20]), (21, [13, 18, 19, 20, 22])], dp := look2 [(6, [[], [], [], [1, 2], [0, 1, 2, 3], [0, 1, 2, 3, 4], [0, 1, 2, 3, 4, 5], [0, 1, 2, 3, 4, 5, 6], [0, 1, 2, 3, 4, 5, 6], [0, 1, 2, 3, 4, 5, 6], [0, 1, 2, 3, 4, 5, 6, 8, 9], [0, 1, 2, 3, 4, 5, 6, 7, 8, 9, 10], [0, 1, 2, 3, 4, 5, 6, 7, 8, 9, 10, 11]]), (10, [[], [], [1], [], [0, 1, 2, 3], [0, 1, 2, 3, 4], [0, 1, 2, 3, 4, 5], [0, 1, 2, 3, 4, 5], [0, 1, 2, 3, 4, 5, 6], [0, 1, 2, 3, 4, 5, 6, 7, 8]]), (16, [[], [], [0, 1], [0, 1, 2], [0, 1, 2, 3], [0, 1, 2, 3], [0, 1, 2, 3, 4, 5], [0, 1, 2, 3, 4, 5, 6], [0, 1, 2, 3, 4, 5, 6, 7], [0, 1, 2, 3, 4, 5, 6, 7, 8], [0, 1, 2, 3, 4, 5, 6, 7, 8, 9], [0, 1, 2, 3, 4, 5, 6, 7, 8, 9, 10], [0, 1, 2, 3, 4, 5, 6, 7, 8, 9, 10], [0, 1, 2, 3, 4, 5, 6, 7, 8, 9, 10, 11, 12], [0, 1, 2, 3, 4, 5, 6, 7, 8, 9, 10], [0, 1, 2, 3, 4, 5, 6, 7, 8, 9, 10, 11, 12, 13, 14], [0, 1, 2, 3, 4, 5, 6, 7, 8, 9, 10, 11, 12, 13, 14, 15], [0, 1, 2, 3, 4, 5, 6, 7, 8, 9, 10, 11, 12, 13, 14, 15, 16], [0, 1, 2, 3, 4, 5, 6, 7, 8, 9, 10, 11, 12, 13, 14, 15, 16, 17]])] }
attribute [local push_cast] E3
set_option maxRecDepth 20000 in
set_option maxHeartbeats 4000000 in
theorem fnLists (c : List Int) (hcl : c.length ≤ 9223372036854775807) (hc : ∀ x ∈ c, 0 ≤ x ∧ x ≤ 255) : Does Tryz.prog 3 [.sl false 1 (c.map numR)] (.sc (.bool true), []) := by
  refine does_of (E := E3) (rs := [.tmp 2]) (lent := []) tOk rfl Tryz.func3 rfl (by decide) rfl rfl (Nat.le_of_ble_eq_true rfl) (Nat.le_of_ble_eq_true rfl) ?_
  by_cases hbig : 1048576 < c.length
  · (simp -dsimp (disch := first | omega | (simp only [hbig, List.length_cons, List.length_nil, List.length_map, List.length_append, List.length_take, List.length_drop, List.length_replicate, List.length_set, mkG_len] <;> omega) | fail) only [push_cast, if_pos, decide_eq_true, decide_eq_false, hbig, simprocAttr, -Nat.reduceSubDiff]) <;> (repeat (refine (aw_draw (by kernel_rfl)).2 ?_; simp -dsimp (disch := first | omega | (simp only [hbig, List.length_cons, List.length_nil, List.length_map, List.length_append, List.length_take, List.length_drop, List.length_replicate, List.length_set, mkG_len] <;> omega) | fail) only [push_cast, if_pos, decide_eq_true, decide_eq_false, hbig, simprocAttr, -Nat.reduceSubDiff]))
  (simp -dsimp (disch := first | omega | (simp only [hbig, List.length_cons, List.length_nil, List.length_map, List.length_append, List.length_take, List.length_drop, List.length_replicate, List.length_set, mkG_len] <;> omega) | fail) only [push_cast, if_pos, decide_eq_true, decide_eq_false, hbig, simprocAttr, -Nat.reduceSubDiff]) <;> (repeat (refine (aw_draw (by kernel_rfl)).2 ?_; simp -dsimp (disch := first | omega | (simp only [hbig, List.length_cons, List.length_nil, List.length_map, List.length_append, List.length_take, List.length_drop, List.length_replicate, List.length_set, mkG_len] <;> omega) | fail) only [push_cast, if_pos, decide_eq_true, decide_eq_false, hbig, simprocAttr, -Nat.reduceSubDiff]))
  refine some_call (drawDescribe c (by omega) hc) ?_
  rintro _ ⟨t, w, rfl, ht⟩
  have hdl := desc_len (t := t) (w := w)
  (simp -dsimp (disch := first | omega | (simp only [List.length_cons, List.length_nil, List.length_map, List.length_append, List.length_take, List.length_drop, List.length_replicate, List.length_set, mkG_len] <;> omega) | fail) only [push_cast, if_pos, decide_eq_true, decide_eq_false, simprocAttr, -Nat.reduceSubDiff]) <;> (repeat (refine (aw_draw (by kernel_rfl)).2 ?_; simp -dsimp (disch := first | omega | (simp only [List.length_cons, List.length_nil, List.length_map, List.length_append, List.length_take, List.length_drop, List.length_replicate, List.length_set, mkG_len] <;> omega) | fail) only [push_cast, if_pos, decide_eq_true, decide_eq_false, simprocAttr, -Nat.reduceSubDiff]))
  refine callC (implDescribe t w (by omega)) ?_
  (simp -dsimp (disch := first | omega | (simp only [List.length_cons, List.length_nil, List.length_map, List.length_append, List.length_take, List.length_drop, List.length_replicate, List.length_set, mkG_len] <;> omega) | fail) only [push_cast, if_pos, decide_eq_true, decide_eq_false, simprocAttr, -Nat.reduceSubDiff]) <;> (repeat (refine (aw_draw (by kernel_rfl)).2 ?_; simp -dsimp (disch := first | omega | (simp only [List.length_cons, List.length_nil, List.length_map, List.length_append, List.length_take, List.length_drop, List.length_replicate, List.length_set, mkG_len] <;> omega) | fail) only [push_cast, if_pos, decide_eq_true, decide_eq_false, simprocAttr, -Nat.reduceSubDiff]))
  refine callC (implFormList (descL t w).1 w (by omega)) ?_
  (simp -dsimp (disch := first | omega | (simp only [List.length_cons, List.length_nil, List.length_map, List.length_append, List.length_take, List.length_drop, List.length_replicate, List.length_set, mkG_len] <;> omega) | fail) only [push_cast, if_pos, decide_eq_true, decide_eq_false, simprocAttr, -Nat.reduceSubDiff]) <;> (repeat (refine (aw_draw (by kernel_rfl)).2 ?_; simp -dsimp (disch := first | omega | (simp only [List.length_cons, List.length_nil, List.length_map, List.length_append, List.length_take, List.length_drop, List.length_replicate, List.length_set, mkG_len] <;> omega) | fail) only [push_cast, if_pos, decide_eq_true, decide_eq_false, simprocAttr, -Nat.reduceSubDiff]))
  refine callC (specDescribe t w (by omega)) ?_
  (simp -dsimp (disch := first | omega | (simp only [List.length_cons, List.length_nil, List.length_map, List.length_append, List.length_take, List.length_drop, List.length_replicate, List.length_set, mkG_len] <;> omega) | fail) only [push_cast, if_pos, decide_eq_true, decide_eq_false, simprocAttr, -Nat.reduceSubDiff]) <;> (repeat (refine (aw_draw (by kernel_rfl)).2 ?_; simp -dsimp (disch := first | omega | (simp only [List.length_cons, List.length_nil, List.length_map, List.length_append, List.length_take, List.length_drop, List.length_replicate, List.length_set, mkG_len] <;> omega) | fail) only [push_cast, if_pos, decide_eq_true, decide_eq_false, simprocAttr, -Nat.reduceSubDiff]))
  refine callC (wList (descL t w).1 (by omega)) ?_
  (simp -dsimp (disch := first | omega | (simp only [List.length_cons, List.length_nil, List.length_map, List.length_append, List.length_take, List.length_drop, List.length_replicate, List.length_set, mkG_len] <;> omega) | fail) only [push_cast, if_pos, decide_eq_true, decide_eq_false, simprocAttr, -Nat.reduceSubDiff]) <;> (repeat (refine (aw_draw (by kernel_rfl)).2 ?_; simp -dsimp (disch := first | omega | (simp only [List.length_cons, List.length_nil, List.length_map, List.length_append, List.length_take, List.length_drop, List.length_replicate, List.length_set, mkG_len] <;> omega) | fail) only [push_cast, if_pos, decide_eq_true, decide_eq_false, simprocAttr, -Nat.reduceSubDiff]))
  refine callC (specFormList (descL t w).1 w (by omega)) ?_
  have hfl := formL_len (l := (descL t w).1) (w := w)
  have good : formL (descL t w).1 w ≠ (⟨#[]⟩ : ByteArray) → ¬ 3000 < t.size → readL (formL (descL t w).1 w) w = ((descL t w).1, true) ∧ buildF (descL t w).1 (piecesL t) w = (t, true) := fun h1 h3 => by
    have hok : okLs (descL t w).1 w = true := by
      cases h : okLs (descL t w).1 w with
      | true => rfl
      | false => exact (h1 (by unfold formL; rw [if_neg (by rw [h]; simp)]; rfl)).elim
    exact ⟨read_of hok (by unfold formL; rw [if_pos hok]), build_desc h3 hok⟩
  have okl : okLst (descL t w).1 := ⟨by omega, fun a ha => by have := desc_szs a ha; show a.size ≤ 2097152; omega⟩
  have hpl := pieces_len t
  have okp : okL okStr (piecesL t) := ⟨by omega, fun a ha => by have := pieces_sz ha; show a.size ≤ 2097152; omega⟩
  have hbd := implBuild (descL t w).1 (piecesL t) w okl okp
  have hrd := implReadList (formL (descL t w).1 w) w (by omega)
  have hip := implPieces t (by omega)
  have hwl := wList (descL t w).1 (by omega)
  generalize formL (descL t w).1 w = f at *
  generalize (descL t w).1 = l at *
  generalize piecesL t = P at *
  have cs : (f = (⟨#[]⟩ : ByteArray)) ∨ (¬ f = (⟨#[]⟩ : ByteArray) ∧ 3000 < t.size) ∨ (¬ f = (⟨#[]⟩ : ByteArray) ∧ ¬ 3000 < t.size) := by
    by_cases a : f = (⟨#[]⟩ : ByteArray)
    · exact .inl a
    · by_cases b : 3000 < t.size
      · exact .inr (.inl ⟨a, b⟩)
      · exact .inr (.inr ⟨a, b⟩)
  rcases cs with h1 | ⟨h1, h3⟩ | ⟨h1, h3⟩
  rotate_left 2
  focus
    obtain ⟨g1, g2⟩ := good h1 h3
    rw [g1] at hrd
    rw [g2] at hbd
    (simp -dsimp (disch := first | omega | (simp only [h1, List.length_cons, List.length_nil, List.length_map, List.length_append, List.length_take, List.length_drop, List.length_replicate, List.length_set, mkG_len] <;> omega) | fail) only [push_cast, if_pos, decide_eq_true, decide_eq_false, h1, simprocAttr, -Nat.reduceSubDiff]) <;> (repeat (refine (aw_draw (by kernel_rfl)).2 ?_; simp -dsimp (disch := first | omega | (simp only [h1, List.length_cons, List.length_nil, List.length_map, List.length_append, List.length_take, List.length_drop, List.length_replicate, List.length_set, mkG_len] <;> omega) | fail) only [push_cast, if_pos, decide_eq_true, decide_eq_false, h1, simprocAttr, -Nat.reduceSubDiff]))
    refine callC hrd ?_
    (simp -dsimp (disch := first | omega | (simp only [h1, List.length_cons, List.length_nil, List.length_map, List.length_append, List.length_take, List.length_drop, List.length_replicate, List.length_set, mkG_len] <;> omega) | fail) only [push_cast, if_pos, decide_eq_true, decide_eq_false, h1, simprocAttr, -Nat.reduceSubDiff]) <;> (repeat (refine (aw_draw (by kernel_rfl)).2 ?_; simp -dsimp (disch := first | omega | (simp only [h1, List.length_cons, List.length_nil, List.length_map, List.length_append, List.length_take, List.length_drop, List.length_replicate, List.length_set, mkG_len] <;> omega) | fail) only [push_cast, if_pos, decide_eq_true, decide_eq_false, h1, simprocAttr, -Nat.reduceSubDiff]))
    refine callC hip ?_
    (simp -dsimp (disch := first | omega | (simp only [h1, List.length_cons, List.length_nil, List.length_map, List.length_append, List.length_take, List.length_drop, List.length_replicate, List.length_set, mkG_len] <;> omega) | fail) only [push_cast, if_pos, decide_eq_true, decide_eq_false, h1, simprocAttr, -Nat.reduceSubDiff]) <;> (repeat (refine (aw_draw (by kernel_rfl)).2 ?_; simp -dsimp (disch := first | omega | (simp only [h1, List.length_cons, List.length_nil, List.length_map, List.length_append, List.length_take, List.length_drop, List.length_replicate, List.length_set, mkG_len] <;> omega) | fail) only [push_cast, if_pos, decide_eq_true, decide_eq_false, h1, simprocAttr, -Nat.reduceSubDiff]))
    refine callC hbd ?_
    (simp -dsimp (disch := first | omega | (simp only [h1, List.length_cons, List.length_nil, List.length_map, List.length_append, List.length_take, List.length_drop, List.length_replicate, List.length_set, mkG_len] <;> omega) | fail) only [push_cast, if_pos, decide_eq_true, decide_eq_false, h1, simprocAttr, -Nat.reduceSubDiff]) <;> (repeat (refine (aw_draw (by kernel_rfl)).2 ?_; simp -dsimp (disch := first | omega | (simp only [h1, List.length_cons, List.length_nil, List.length_map, List.length_append, List.length_take, List.length_drop, List.length_replicate, List.length_set, mkG_len] <;> omega) | fail) only [push_cast, if_pos, decide_eq_true, decide_eq_false, h1, simprocAttr, -Nat.reduceSubDiff]))
    refine callC hwl ?_
  rotate_left 2
  all_goals
    (simp -dsimp (disch := first | omega | (simp only [h1, List.length_cons, List.length_nil, List.length_map, List.length_append, List.length_take, List.length_drop, List.length_replicate, List.length_set, mkG_len] <;> omega) | fail) only [push_cast, if_pos, decide_eq_true, decide_eq_false, h1, simprocAttr, -Nat.reduceSubDiff]) <;> (repeat (refine (aw_draw (by kernel_rfl)).2 ?_; simp -dsimp (disch := first | omega | (simp only [h1, List.length_cons, List.length_nil, List.length_map, List.length_append, List.length_take, List.length_drop, List.length_replicate, List.length_set, mkG_len] <;> omega) | fail) only [push_cast, if_pos, decide_eq_true, decide_eq_false, h1, simprocAttr, -Nat.reduceSubDiff]))
    refine some_call (drawBuild c (by omega) hc) ?_
    rintro _ ⟨m, ps, v, rfl, hm, hps⟩
    have hb1 := implBuild m ps v hm hps
    have hb2 := specBuild m ps v hm hps
    have hbk := buildD_ok (l := m) (ps := ps) (w := v)
    have hbl := build_len (l := m) (ps := ps) (w := v)
    have hml := hm.1
    generalize buildF m ps v = B at *
    obtain ⟨y, b⟩ := B
    simp only at hb1 hb2 hbk hbl
    (simp -dsimp (disch := first | omega | (simp only [List.length_cons, List.length_nil, List.length_map, List.length_append, List.length_take, List.length_drop, List.length_replicate, List.length_set, mkG_len] <;> omega) | fail) only [push_cast, if_pos, decide_eq_true, decide_eq_false, simprocAttr, -Nat.reduceSubDiff]) <;> (repeat (refine (aw_draw (by kernel_rfl)).2 ?_; simp -dsimp (disch := first | omega | (simp only [List.length_cons, List.length_nil, List.length_map, List.length_append, List.length_take, List.length_drop, List.length_replicate, List.length_set, mkG_len] <;> omega) | fail) only [push_cast, if_pos, decide_eq_true, decide_eq_false, simprocAttr, -Nat.reduceSubDiff]))
    refine callC hb1 ?_
    (simp -dsimp (disch := first | omega | (simp only [List.length_cons, List.length_nil, List.length_map, List.length_append, List.length_take, List.length_drop, List.length_replicate, List.length_set, mkG_len] <;> omega) | fail) only [push_cast, if_pos, decide_eq_true, decide_eq_false, simprocAttr, -Nat.reduceSubDiff]) <;> (repeat (refine (aw_draw (by kernel_rfl)).2 ?_; simp -dsimp (disch := first | omega | (simp only [List.length_cons, List.length_nil, List.length_map, List.length_append, List.length_take, List.length_drop, List.length_replicate, List.length_set, mkG_len] <;> omega) | fail) only [push_cast, if_pos, decide_eq_true, decide_eq_false, simprocAttr, -Nat.reduceSubDiff]))
    refine callC hb2 ?_
    cases b with
    | false =>
      (simp -dsimp (disch := first | omega | (simp only [List.length_cons, List.length_nil, List.length_map, List.length_append, List.length_take, List.length_drop, List.length_replicate, List.length_set, mkG_len] <;> omega) | fail) only [push_cast, if_pos, decide_eq_true, decide_eq_false, simprocAttr, -Nat.reduceSubDiff]) <;> (repeat (refine (aw_draw (by kernel_rfl)).2 ?_; simp -dsimp (disch := first | omega | (simp only [List.length_cons, List.length_nil, List.length_map, List.length_append, List.length_take, List.length_drop, List.length_replicate, List.length_set, mkG_len] <;> omega) | fail) only [push_cast, if_pos, decide_eq_true, decide_eq_false, simprocAttr, -Nat.reduceSubDiff]))
      refine some_call (drawReadList c (by omega) hc) ?_
      rintro _ ⟨u, v2, rfl, hu⟩
      have hr1 := implReadList u v2 (by omega)
      have hr2 := specReadList u v2 (by omega)
      have hrf := read_form (u := u) (v := v2)
      have hrl : (readL u v2).2 = true → (readL u v2).1.S.length ≤ 2097152 := fun q => by
        obtain ⟨_, _, _, _, z, _⟩ := okLs_up (read_ok q).1; omega
      generalize readL u v2 = R at *
      obtain ⟨x, q⟩ := R
      simp only at hr1 hr2 hrf hrl
      (simp -dsimp (disch := first | omega | (simp only [List.length_cons, List.length_nil, List.length_map, List.length_append, List.length_take, List.length_drop, List.length_replicate, List.length_set, mkG_len] <;> omega) | fail) only [push_cast, if_pos, decide_eq_true, decide_eq_false, simprocAttr, -Nat.reduceSubDiff]) <;> (repeat (refine (aw_draw (by kernel_rfl)).2 ?_; simp -dsimp (disch := first | omega | (simp only [List.length_cons, List.length_nil, List.length_map, List.length_append, List.length_take, List.length_drop, List.length_replicate, List.length_set, mkG_len] <;> omega) | fail) only [push_cast, if_pos, decide_eq_true, decide_eq_false, simprocAttr, -Nat.reduceSubDiff]))
      refine callC hr1 ?_
      (simp -dsimp (disch := first | omega | (simp only [List.length_cons, List.length_nil, List.length_map, List.length_append, List.length_take, List.length_drop, List.length_replicate, List.length_set, mkG_len] <;> omega) | fail) only [push_cast, if_pos, decide_eq_true, decide_eq_false, simprocAttr, -Nat.reduceSubDiff]) <;> (repeat (refine (aw_draw (by kernel_rfl)).2 ?_; simp -dsimp (disch := first | omega | (simp only [List.length_cons, List.length_nil, List.length_map, List.length_append, List.length_take, List.length_drop, List.length_replicate, List.length_set, mkG_len] <;> omega) | fail) only [push_cast, if_pos, decide_eq_true, decide_eq_false, simprocAttr, -Nat.reduceSubDiff]))
      refine callC hr2 ?_
      cases q with
      | false => (simp -dsimp (disch := first | omega | (simp only [List.length_cons, List.length_nil, List.length_map, List.length_append, List.length_take, List.length_drop, List.length_replicate, List.length_set, mkG_len] <;> omega) | fail) only [push_cast, if_pos, decide_eq_true, decide_eq_false, simprocAttr, -Nat.reduceSubDiff]) <;> (repeat (refine (aw_draw (by kernel_rfl)).2 ?_; simp -dsimp (disch := first | omega | (simp only [List.length_cons, List.length_nil, List.length_map, List.length_append, List.length_take, List.length_drop, List.length_replicate, List.length_set, mkG_len] <;> omega) | fail) only [push_cast, if_pos, decide_eq_true, decide_eq_false, simprocAttr, -Nat.reduceSubDiff]))
      | true =>
        (simp -dsimp (disch := first | omega | (simp only [List.length_cons, List.length_nil, List.length_map, List.length_append, List.length_take, List.length_drop, List.length_replicate, List.length_set, mkG_len] <;> omega) | fail) only [push_cast, if_pos, decide_eq_true, decide_eq_false, simprocAttr, -Nat.reduceSubDiff]) <;> (repeat (refine (aw_draw (by kernel_rfl)).2 ?_; simp -dsimp (disch := first | omega | (simp only [List.length_cons, List.length_nil, List.length_map, List.length_append, List.length_take, List.length_drop, List.length_replicate, List.length_set, mkG_len] <;> omega) | fail) only [push_cast, if_pos, decide_eq_true, decide_eq_false, simprocAttr, -Nat.reduceSubDiff]))
        refine callC (implFormList x v2 (hrl rfl)) ?_
        rw [hrf rfl]
        (simp -dsimp (disch := first | omega | (simp only [List.length_cons, List.length_nil, List.length_map, List.length_append, List.length_take, List.length_drop, List.length_replicate, List.length_set, mkG_len] <;> omega) | fail) only [push_cast, if_pos, decide_eq_true, decide_eq_false, simprocAttr, -Nat.reduceSubDiff]) <;> (repeat (refine (aw_draw (by kernel_rfl)).2 ?_; simp -dsimp (disch := first | omega | (simp only [List.length_cons, List.length_nil, List.length_map, List.length_append, List.length_take, List.length_drop, List.length_replicate, List.length_set, mkG_len] <;> omega) | fail) only [push_cast, if_pos, decide_eq_true, decide_eq_false, simprocAttr, -Nat.reduceSubDiff]))
    | true =>
      (simp -dsimp (disch := first | omega | (simp only [List.length_cons, List.length_nil, List.length_map, List.length_append, List.length_take, List.length_drop, List.length_replicate, List.length_set, mkG_len] <;> omega) | fail) only [push_cast, if_pos, decide_eq_true, decide_eq_false, simprocAttr, -Nat.reduceSubDiff]) <;> (repeat (refine (aw_draw (by kernel_rfl)).2 ?_; simp -dsimp (disch := first | omega | (simp only [List.length_cons, List.length_nil, List.length_map, List.length_append, List.length_take, List.length_drop, List.length_replicate, List.length_set, mkG_len] <;> omega) | fail) only [push_cast, if_pos, decide_eq_true, decide_eq_false, simprocAttr, -Nat.reduceSubDiff]))
      refine callC (implDescribe y v (by omega)) ?_
      rw [hbk rfl]
      (simp -dsimp (disch := first | omega | (simp only [List.length_cons, List.length_nil, List.length_map, List.length_append, List.length_take, List.length_drop, List.length_replicate, List.length_set, mkG_len] <;> omega) | fail) only [push_cast, if_pos, decide_eq_true, decide_eq_false, simprocAttr, -Nat.reduceSubDiff]) <;> (repeat (refine (aw_draw (by kernel_rfl)).2 ?_; simp -dsimp (disch := first | omega | (simp only [List.length_cons, List.length_nil, List.length_map, List.length_append, List.length_take, List.length_drop, List.length_replicate, List.length_set, mkG_len] <;> omega) | fail) only [push_cast, if_pos, decide_eq_true, decide_eq_false, simprocAttr, -Nat.reduceSubDiff]))
      refine callC (wList m hml) ?_
      (simp -dsimp (disch := first | omega | (simp only [List.length_cons, List.length_nil, List.length_map, List.length_append, List.length_take, List.length_drop, List.length_replicate, List.length_set, mkG_len] <;> omega) | fail) only [push_cast, if_pos, decide_eq_true, decide_eq_false, simprocAttr, -Nat.reduceSubDiff]) <;> (repeat (refine (aw_draw (by kernel_rfl)).2 ?_; simp -dsimp (disch := first | omega | (simp only [List.length_cons, List.length_nil, List.length_map, List.length_append, List.length_take, List.length_drop, List.length_replicate, List.length_set, mkG_len] <;> omega) | fail) only [push_cast, if_pos, decide_eq_true, decide_eq_false, simprocAttr, -Nat.reduceSubDiff]))
      refine some_call (drawReadList c (by omega) hc) ?_
      rintro _ ⟨u, v2, rfl, hu⟩
      have hr1 := implReadList u v2 (by omega)
      have hr2 := specReadList u v2 (by omega)
      have hrf := read_form (u := u) (v := v2)
      have hrl : (readL u v2).2 = true → (readL u v2).1.S.length ≤ 2097152 := fun q => by
        obtain ⟨_, _, _, _, z, _⟩ := okLs_up (read_ok q).1; omega
      generalize readL u v2 = R at *
      obtain ⟨x, q⟩ := R
      simp only at hr1 hr2 hrf hrl
      (simp -dsimp (disch := first | omega | (simp only [List.length_cons, List.length_nil, List.length_map, List.length_append, List.length_take, List.length_drop, List.length_replicate, List.length_set, mkG_len] <;> omega) | fail) only [push_cast, if_pos, decide_eq_true, decide_eq_false, simprocAttr, -Nat.reduceSubDiff]) <;> (repeat (refine (aw_draw (by kernel_rfl)).2 ?_; simp -dsimp (disch := first | omega | (simp only [List.length_cons, List.length_nil, List.length_map, List.length_append, List.length_take, List.length_drop, List.length_replicate, List.length_set, mkG_len] <;> omega) | fail) only [push_cast, if_pos, decide_eq_true, decide_eq_false, simprocAttr, -Nat.reduceSubDiff]))
      refine callC hr1 ?_
      (simp -dsimp (disch := first | omega | (simp only [List.length_cons, List.length_nil, List.length_map, List.length_append, List.length_take, List.length_drop, List.length_replicate, List.length_set, mkG_len] <;> omega) | fail) only [push_cast, if_pos, decide_eq_true, decide_eq_false, simprocAttr, -Nat.reduceSubDiff]) <;> (repeat (refine (aw_draw (by kernel_rfl)).2 ?_; simp -dsimp (disch := first | omega | (simp only [List.length_cons, List.length_nil, List.length_map, List.length_append, List.length_take, List.length_drop, List.length_replicate, List.length_set, mkG_len] <;> omega) | fail) only [push_cast, if_pos, decide_eq_true, decide_eq_false, simprocAttr, -Nat.reduceSubDiff]))
      refine callC hr2 ?_
      cases q with
      | false => (simp -dsimp (disch := first | omega | (simp only [List.length_cons, List.length_nil, List.length_map, List.length_append, List.length_take, List.length_drop, List.length_replicate, List.length_set, mkG_len] <;> omega) | fail) only [push_cast, if_pos, decide_eq_true, decide_eq_false, simprocAttr, -Nat.reduceSubDiff]) <;> (repeat (refine (aw_draw (by kernel_rfl)).2 ?_; simp -dsimp (disch := first | omega | (simp only [List.length_cons, List.length_nil, List.length_map, List.length_append, List.length_take, List.length_drop, List.length_replicate, List.length_set, mkG_len] <;> omega) | fail) only [push_cast, if_pos, decide_eq_true, decide_eq_false, simprocAttr, -Nat.reduceSubDiff]))
      | true =>
        (simp -dsimp (disch := first | omega | (simp only [List.length_cons, List.length_nil, List.length_map, List.length_append, List.length_take, List.length_drop, List.length_replicate, List.length_set, mkG_len] <;> omega) | fail) only [push_cast, if_pos, decide_eq_true, decide_eq_false, simprocAttr, -Nat.reduceSubDiff]) <;> (repeat (refine (aw_draw (by kernel_rfl)).2 ?_; simp -dsimp (disch := first | omega | (simp only [List.length_cons, List.length_nil, List.length_map, List.length_append, List.length_take, List.length_drop, List.length_replicate, List.length_set, mkG_len] <;> omega) | fail) only [push_cast, if_pos, decide_eq_true, decide_eq_false, simprocAttr, -Nat.reduceSubDiff]))
        refine callC (implFormList x v2 (hrl rfl)) ?_
        rw [hrf rfl]
        (simp -dsimp (disch := first | omega | (simp only [List.length_cons, List.length_nil, List.length_map, List.length_append, List.length_take, List.length_drop, List.length_replicate, List.length_set, mkG_len] <;> omega) | fail) only [push_cast, if_pos, decide_eq_true, decide_eq_false, simprocAttr, -Nat.reduceSubDiff]) <;> (repeat (refine (aw_draw (by kernel_rfl)).2 ?_; simp -dsimp (disch := first | omega | (simp only [List.length_cons, List.length_nil, List.length_map, List.length_append, List.length_take, List.length_drop, List.length_replicate, List.length_set, mkG_len] <;> omega) | fail) only [push_cast, if_pos, decide_eq_true, decide_eq_false, simprocAttr, -Nat.reduceSubDiff]))
end Go.Proofs.YtgkncgiglmdnaaaGreatDoor.Mx

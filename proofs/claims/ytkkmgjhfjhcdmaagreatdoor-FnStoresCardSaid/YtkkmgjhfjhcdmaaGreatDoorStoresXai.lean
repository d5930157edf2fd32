/- A machine over values for Go functions, proved sound, and functions run on it: texts VN, F1, F30, F31, F32, F33, VB. -/
import Derived.Test.YtkkmgjhfjhcdmaaGreatDoorStoresXah
/- Two things of one name: a clash, pure. -/
namespace Go.Proofs.YtkkmgjhfjhcdmaaGreatDoor.Mx
set_option linter.all false
open Go Go.RowKit
theorem pc_len8 : ∀ (r cur : List UInt8), 8 * (pcF cur r).length ≤ cur.length + r.length + 7
  | [], cur => by
    rw [pcF]
    split
    · simp
    · rename_i h
      have := List.length_pos_iff.2 h
      simp only [List.length_cons, List.length_nil]; omega
  | x :: r, cur => by
    rw [pcF]
    split
    · rename_i h
      have h8 : 8 ≤ (cur ++ [x]).length := by
        unfold endsB at h
        simp only [Bool.and_eq_true, decide_eq_true_eq] at h
        exact h.1
      have := pc_len8 r []
      rw [List.length_append] at h8
      simp only [List.length_cons, List.length_nil] at this h8 ⊢; omega
    · have := pc_len8 r (cur ++ [x])
      rw [List.length_append] at this
      simp only [List.length_cons, List.length_nil] at this ⊢; omega
theorem pieces_len8 (t : Str) : (piecesL t).length ≤ 375 := by
  unfold piecesL
  split
  · simp
  · rename_i h
    have := pc_len8 (bt t) []
    rw [bt_len, List.length_nil] at this
    rw [List.length_map]; omega
theorem pieces_inj {a b : Str} (ha : a.size ≤ 3000) (hb : b.size ≤ 3000) (h : piecesL a = piecesL b) : a = b := by
  unfold piecesL at h
  rw [if_neg (by omega), if_neg (by omega)] at h
  have h2 := congrArg (fun l => (l.map bt).flatten) h
  simp only [List.map_map] at h2
  have e : ∀ l : List (List UInt8), l.map (bt ∘ stB) = l := fun l => by
    rw [show (bt ∘ stB) = id from funext bt_stB, List.map_id]
  rw [e, e, pc_join, pc_join, List.nil_append, List.nil_append] at h2
  rw [← stB_bt a, h2, stB_bt]
theorem desc_eq {t : Str} {w : Int} (h : t.size ≤ 3000) (hw : inB w 1 8 = true) : descL t w = (⟨t.size, (piecesL t).map fun p => sumS p w⟩, true) := by
  unfold descL
  rw [if_neg (by rintro (q | q); omega; rw [hw] at q; cases q)]
theorem desc_ok {t : Str} {w : Int} (h : t.size ≤ 3000) (hw : inB w 1 8 = true) : okLs (descL t w).1 w = true := by
  rw [desc_eq h hw]
  have hw' : 1 ≤ w ∧ w ≤ 8 := of_decide_eq_true hw
  unfold okLs
  have := pieces_len8 t
  simp only [hw, Bool.true_and, Bool.and_eq_true, decide_eq_true_eq, List.length_map, List.all_eq_true]
  refine ⟨⟨decide_eq_true (by omega), this⟩, ?_⟩
  intro x hx
  obtain ⟨p, _, rfl⟩ := List.mem_map.1 hx
  exact sumS_size hw'.1 hw'.2
/-- no two texts of one sum -/
def nocl (L : List Str) (w : Int) : Prop := ∀ x ∈ L, ∀ y ∈ L, sumS x w = sumS y w → x = y
def twoL (a b : Str) (w : Int) : List Str := [formL (descL a w).1 w] ++ piecesL a ++ [formL (descL b w).1 w] ++ piecesL b
theorem map_inj {f : Str → Str} : ∀ {l m : List Str}, (∀ x ∈ l, ∀ y ∈ m, f x = f y → x = y) → l.map f = m.map f → l = m
  | [], [], _, _ => rfl
  | [], y :: m, _, h => by simp at h
  | x :: l, [], _, h => by simp at h
  | x :: l, y :: m, H, h => by
    rw [List.map_cons, List.map_cons] at h
    injection h with h1 h2
    rw [H x (by simp) y (by simp) h1, map_inj (fun u hu v hv => H u (by simp [hu]) v (by simp [hv])) h2]
theorem name_two {a b : Str} {w : Int} (ha : a.size ≤ 3000) (hb : b.size ≤ 3000) (hw : inB w 1 8 = true) (hn : nameS a w = nameS b w) (nc : nocl (twoL a b w) w) : a = b := by
  have da := desc_eq ha hw
  have db := desc_eq hb hw
  have oa := desc_ok ha hw
  have ob := desc_ok hb hw
  have fa : (descL a w).2 = true := by rw [da]
  have fb : (descL b w).2 = true := by rw [db]
  unfold nameS at hn
  rw [if_pos fa, if_pos fb] at hn
  have e1 := nc _ (by unfold twoL; simp) _ (by unfold twoL; simp) hn
  unfold formL at e1
  rw [if_pos oa, if_pos ob] at e1
  have e2 := parse_form oa
  rw [e1, parse_form ob, da, db] at e2
  have e3 := congrArg Lst.S e2
  simp only at e3
  exact pieces_inj ha hb (map_inj (fun x hx y hy => nc x (by unfold twoL; simp [hx]) y (by unfold twoL; simp [hy])) e3.symm)
theorem two_len (a b : Str) (w : Int) : (twoL a b w).length ≤ 752 := by
  unfold twoL
  have := pieces_len8 a
  have := pieces_len8 b
  simp only [List.length_append, List.length_cons, List.length_nil]; omega
/-- what two things share: the bytes of the other's pieces that are the first's, too -/
def shareN (a b : Str) : Nat → Int
  | 0 => 0
  | i + 1 => shareN a b i + (match (piecesL b)[i]? with | some x => bif inL (piecesL a) x then (x.size : Int) else 0 | none => 0)
theorem share_nn (a b : Str) : ∀ i, 0 ≤ shareN a b i ∧ shareN a b i ≤ 3000 * i
  | 0 => by simp [shareN]
  | i + 1 => by
    have := share_nn a b i
    rw [shareN]
    split
    · rename_i x hx
      have := pieces_sz (List.mem_of_getElem? hx)
      cases inL (piecesL a) x <;> simp only [cond_true, cond_false] <;> omega
    · omega
theorem share_step {a b : Str} {i : Nat} {x : Str} (h : (piecesL b)[i]? = some x) : shareN a b (i + 1) = shareN a b i + (bif inL (piecesL a) x then (x.size : Int) else 0) := by
  rw [shareN, h]
end Go.Proofs.YtkkmgjhfjhcdmaaGreatDoor.Mx

/- Sums. -/
namespace Go.Proofs.YtkkmgjhfjhcdmaaGreatDoor.Mx
set_option linter.all false
open Go Go.RowKit Go.Proofs
def E56 : Env := { T := T0, kp := look [(0, [0]), (1, [0])] }
attribute [local push_cast] E56
theorem widthOk (n : Int) : Does Tryz.prog 56 [.sc (.int .i64 n)] (.sc (.bool (inB n 1 8)), []) := by
  refine does_of (E := E56) (rs := [.tmp 2]) (lent := []) tOk rfl Tryz.func56 rfl (by decide) rfl rfl (Nat.le_of_ble_eq_true rfl) (Nat.le_of_ble_eq_true rfl) ?_
  by_cases h : 1 ≤ n <;> by_cases h2 : n ≤ 8 <;> first | (exfalso; omega) | (simp -dsimp (disch := first | omega | (simp only [h, h2, inB, LR] <;> omega) | fail) only [push_cast, h, h2, inB, simprocAttr, -Nat.reduceSubDiff])
def E54 : Env := { T := T0, kp := look [(0, [0, 1, 2]), (1, [0, 1, 2])] }
attribute [local push_cast] E54
theorem l1In (a b c : Int) : Does Tryz.prog 54 [.sc (.int .i64 a), .sc (.int .i64 b), .sc (.int .i64 c)] (.sc (.bool (inB a b c)), []) := by
  refine does_of (E := E54) (rs := [.tmp 6]) (lent := []) tOk rfl Tryz.func54 rfl (by decide) rfl rfl (Nat.le_of_ble_eq_true rfl) (Nat.le_of_ble_eq_true rfl) ?_
  by_cases h : b ≤ a <;> by_cases h2 : a ≤ c <;> simp -dsimp (disch := first | omega | (simp only [h, h2, inB, LR] <;> omega) | fail) only [push_cast, h, h2, inB, simprocAttr, -Nat.reduceSubDiff]
def E53 : Env := { T := T0, kp := look [(0, [0]), (1, [0])] }
attribute [local push_cast] E53
theorem l1Width (n : Int) : Does Tryz.prog 53 [.sc (.int .i64 n)] (.sc (.bool (inB n 1 8)), []) := by
  refine does_of (E := E53) (rs := [.tmp 2]) (lent := []) tOk rfl Tryz.func53 rfl (by decide) rfl rfl (Nat.le_of_ble_eq_true rfl) (Nat.le_of_ble_eq_true rfl) ?_
  simp -dsimp (disch := first | omega | (simp only [LR] <;> omega) | fail) only [push_cast, simprocAttr, -Nat.reduceSubDiff]
  refine callC (l1In ..) ?_
  simp -dsimp (disch := first | omega | (simp only [LR] <;> omega) | fail) only [push_cast, simprocAttr, -Nat.reduceSubDiff]
def E81 : Env := { T := T0, kp := look [(0, [0]), (1, [0]), (2, [0, 3]), (3, [0, 3, 4]), (4, [0, 3, 4]), (5, [0, 3, 4]), (6, [3])] }
attribute [local push_cast] E81
theorem sum64 (t : Str) (ht : t.size < 4611686018427387904) : Does Tryz.prog 81 [.sc (.string t)] (.sc (.int .u64 (hash64 (bt t))), []) := by
  refine does_of (E := E81) (rs := [.tmp 2]) (lent := []) tOk rfl Tryz.func81 rfl (by decide) rfl rfl (Nat.le_of_ble_eq_true rfl) (Nat.le_of_ble_eq_true rfl) ?_
  simp -dsimp (disch := first | omega | (simp only [LR] <;> omega) | fail) only [push_cast, simprocAttr, -Nat.reduceSubDiff]
  refine loop_ind (α := Nat) (fun i => i ≤ t.size) (fun i => ⟨[(0, .sc (.string t)), (3, .sc (.int .u64 (((bt t).take i).foldl step64 14695981039346656037))), (4, .sc (.int .i64 i))], [], 1⟩) (fun i => t.size - i) 0 (Nat.zero_le _) ?_ ?_
  · simp -dsimp (disch := first | omega | (simp only [List.foldl_nil, LR] <;> omega) | fail) only [push_cast, List.foldl_nil, simprocAttr, -Nat.reduceSubDiff]
  intro i hi ih
  by_cases h : i < t.size
  · obtain ⟨u, hu⟩ := ex_get (by rw [bt_len]; exact h : i < (bt t).length)
    simp -dsimp (disch := first | omega | (simp only [h, hu, LR] <;> omega) | fail) only [push_cast, h, hu, simprocAttr, -Nat.reduceSubDiff]
    refine ih (i + 1) _ (by omega) h ?_
    simp -dsimp (disch := first | omega | (simp only [wr_id, take_step hu, List.foldl_append, List.foldl_cons, List.foldl_nil, step64, LR] <;> omega) | fail) only [push_cast, wr_id, take_step hu, List.foldl_append, List.foldl_cons, List.foldl_nil, step64, simprocAttr, -Nat.reduceSubDiff]
  · have hl : (bt t).take i = bt t := List.take_of_length_le (by rw [bt_len]; omega)
    simp -dsimp (disch := first | omega | (simp only [h, hl, hash64, LR] <;> omega) | fail) only [push_cast, h, hl, hash64, simprocAttr, -Nat.reduceSubDiff]
def E80 : Env := { T := T0, kp := look [(0, [0]), (1, [0]), (2, [0, 3]), (3, [0, 3, 4]), (4, [0, 3, 4]), (5, [0, 3, 4]), (6, [3])] }
attribute [local push_cast] E80
theorem l1Sum64 (t : Str) (ht : t.size < 4611686018427387904) : Does Tryz.prog 80 [.sc (.string t)] (.sc (.int .u64 (hash64 (bt t))), []) := by
  refine does_of (E := E80) (rs := [.tmp 2]) (lent := []) tOk rfl Tryz.func80 rfl (by decide) rfl rfl (Nat.le_of_ble_eq_true rfl) (Nat.le_of_ble_eq_true rfl) ?_
  simp -dsimp (disch := first | omega | (simp only [LR] <;> omega) | fail) only [push_cast, simprocAttr, -Nat.reduceSubDiff]
  refine loop_ind (α := Nat) (fun i => i ≤ t.size) (fun i => ⟨[(0, .sc (.string t)), (3, .sc (.int .u64 (((bt t).take i).foldl step64 14695981039346656037))), (4, .sc (.int .i64 i))], [], 1⟩) (fun i => t.size - i) 0 (Nat.zero_le _) ?_ ?_
  · simp -dsimp (disch := first | omega | (simp only [List.foldl_nil, LR] <;> omega) | fail) only [push_cast, List.foldl_nil, simprocAttr, -Nat.reduceSubDiff]
  intro i hi ih
  by_cases h : i < t.size
  · obtain ⟨u, hu⟩ := ex_get (by rw [bt_len]; exact h : i < (bt t).length)
    simp -dsimp (disch := first | omega | (simp only [h, hu, LR] <;> omega) | fail) only [push_cast, h, hu, simprocAttr, -Nat.reduceSubDiff]
    refine ih (i + 1) _ (by omega) h ?_
    simp -dsimp (disch := first | omega | (simp only [wr_id, take_step hu, List.foldl_append, List.foldl_cons, List.foldl_nil, step64, LR] <;> omega) | fail) only [push_cast, wr_id, take_step hu, List.foldl_append, List.foldl_cons, List.foldl_nil, step64, simprocAttr, -Nat.reduceSubDiff]
  · have hl : (bt t).take i = bt t := List.take_of_length_le (by rw [bt_len]; omega)
    simp -dsimp (disch := first | omega | (simp only [h, hl, hash64, LR] <;> omega) | fail) only [push_cast, h, hl, hash64, simprocAttr, -Nat.reduceSubDiff]
def E79 : Env := { T := T0, kp := look [(0, [0, 1]), (1, [0, 1]), (2, [0, 1, 5]), (3, [0, 1, 5, 6]), (4, [0, 1, 5, 6]), (5, [0, 1, 5, 6]), (6, [0, 1, 5, 6]), (7, [5])] }
attribute [local push_cast] E79
theorem l1Bytes (h w : Int) (h0 : 0 ≤ h) (h1 : h < 18446744073709551616) (w0 : 0 ≤ w) (w8 : w ≤ 8) : Does Tryz.prog 79 [.sc (.int .u64 h), .sc (.int .i64 w)] (.sc (.string (strN (be w.toNat h))), []) := by
  refine does_of (E := E79) (rs := [.tmp 4]) (lent := []) tOk rfl Tryz.func79 rfl (by decide) rfl rfl (Nat.le_of_ble_eq_true rfl) (Nat.le_of_ble_eq_true rfl) ?_
  simp -dsimp (disch := first | omega | (simp only [LR] <;> omega) | fail) only [push_cast, simprocAttr, -Nat.reduceSubDiff]
  refine loop_ind (α := Nat) (fun i => i ≤ w.toNat) (fun i => ⟨[(0, .sc (.int .u64 (h / 256 ^ i))), (1, .sc (.int .i64 w)), (5, .sc (.string (strN (be i h)))), (6, .sc (.int .i64 i))], [], 1⟩) (fun i => w.toNat - i) 0 (Nat.zero_le _) ?_ ?_
  · simp -dsimp (disch := first | omega | (simp only [be, strN, Int.pow_zero, Int.ediv_one, LR] <;> omega) | fail) only [push_cast, be, strN, Int.pow_zero, Int.ediv_one, simprocAttr, -Nat.reduceSubDiff]
    trace_state
  intro i hi ih
  by_cases h2 : (i : Int) < w
  · have e1 : 0 ≤ h / 256 ^ i := Int.ediv_nonneg h0 (Int.pow_nonneg (by decide))
    have e2 : h / 256 ^ i < 18446744073709551616 := Int.lt_of_le_of_lt (Int.ediv_le_self _ h0) h1
    have e3 : wr .u8 ((h / 256 ^ i).tmod 256) = h / 256 ^ i % 256 := by rw [wr_u8, Int.tmod_eq_emod_of_nonneg e1]; omega
    have e4 : wr .u64 ((h / 256 ^ i).tdiv 256) = h / 256 ^ (i + 1) := by
      rw [wr_u64, Int.tdiv_eq_ediv_of_nonneg e1, Int.pow_succ, ← Int.ediv_ediv_of_nonneg (Int.pow_nonneg (by decide))]
      have := Int.ediv_nonneg e1 (by decide : (0 : Int) ≤ 256)
      have := Int.ediv_le_self 256 e1
      omega
    simp -dsimp (disch := first | omega | (simp only [h2, e3, e4, strN_one, strN_size, be_len, strN_app, LR] <;> omega) | fail) only [push_cast, h2, e3, e4, strN_one, strN_size, be_len, strN_app, simprocAttr, -Nat.reduceSubDiff]
    refine ih (i + 1) _ (by omega) (by omega) ?_
    simp -dsimp (disch := first | omega | (simp only [wr_id, be, LR] <;> omega) | fail) only [push_cast, wr_id, be, simprocAttr, -Nat.reduceSubDiff]
  · have : w.toNat = i := by omega
    simp -dsimp (disch := first | omega | (simp only [h2, this, LR] <;> omega) | fail) only [push_cast, h2, this, simprocAttr, -Nat.reduceSubDiff]
def E22 : Env := { T := T0, kp := look [(0, [0, 1]), (1, [0, 1]), (2, []), (3, [0, 1])] }
attribute [local push_cast] E22
theorem specSum (t : Str) (w : Int) (ht : t.size < 4611686018427387904) : Does Tryz.prog 22 [.sc (.string t), .sc (.int .i64 w)] (.sc (.string (sumS t w)), []) := by
  refine does_of (E := E22) (rs := [.tmp 4]) (lent := []) tOk rfl Tryz.func22 rfl (by decide) rfl rfl (Nat.le_of_ble_eq_true rfl) (Nat.le_of_ble_eq_true rfl) ?_
  simp -dsimp (disch := first | omega | (simp only [LR] <;> omega) | fail) only [push_cast, simprocAttr, -Nat.reduceSubDiff]
  refine callC (l1Width ..) ?_
  by_cases h : 1 ≤ w ∧ w ≤ 8
  · simp -dsimp (disch := first | omega | (simp only [inB, h, sumS, and_self, LR] <;> omega) | fail) only [push_cast, inB, h, sumS, and_self, simprocAttr, -Nat.reduceSubDiff]
    refine callC (l1Sum64 _ ht) ?_
    simp -dsimp (disch := first | omega | (simp only [LR] <;> omega) | fail) only [push_cast, simprocAttr, -Nat.reduceSubDiff]
    have := hash64_r (bt t)
    refine callC (l1Bytes _ _ this.1 this.2 (by omega) h.2) ?_
    simp -dsimp (disch := first | omega | (simp only [sumS, LR] <;> omega) | fail) only [push_cast, sumS, simprocAttr, -Nat.reduceSubDiff]
  · simp -dsimp (disch := first | omega | (simp only [inB, h, sumS, em, LR] <;> omega) | fail) only [push_cast, inB, h, sumS, em, simprocAttr, -Nat.reduceSubDiff]
def E25 : Env := { T := T0, kp := look [(0, [0, 1]), (1, [0, 1]), (2, []), (3, [0, 1]), (4, [1, 5]), (5, [1, 5, 6]), (6, [1, 5, 6, 16, 17]), (7, [1, 5, 6, 16, 17]), (8, [1, 5, 6, 7, 16, 17]), (9, [1, 5, 6, 16, 17]), (10, [6])] }
attribute [local push_cast] E25
theorem implSum (t : Str) (w : Int) (ht : t.size < 4611686018427387904) : Does Tryz.prog 25 [.sc (.string t), .sc (.int .i64 w)] (.sc (.string (sumS t w)), []) := by
  by_cases h : 1 ≤ w ∧ w ≤ 8
  rotate_left
  · refine does_of (E := E25) (rs := [.tmp 4]) (lent := []) tOk rfl Tryz.func25 rfl (by decide) rfl rfl (Nat.le_of_ble_eq_true rfl) (Nat.le_of_ble_eq_true rfl) ?_
    simp -dsimp (disch := first | omega | (simp only [LR] <;> omega) | fail) only [push_cast, simprocAttr, -Nat.reduceSubDiff]
    refine callC (widthOk ..) ?_
    simp -dsimp (disch := first | omega | (simp only [inB, h, sumS, em, LR] <;> omega) | fail) only [push_cast, inB, h, sumS, em, simprocAttr, -Nat.reduceSubDiff]
  obtain ⟨n, rfl⟩ : ∃ n : Nat, w = n := ⟨w.toNat, by omega⟩
  rw [show sumS t n = strN (be n (hash64 (bt t))) by unfold sumS; rw [if_pos h]; rfl]
  refine does_of (E := E25) (rs := [.tmp 4]) (lent := []) tOk rfl Tryz.func25 rfl (by decide) rfl rfl (Nat.le_of_ble_eq_true rfl) (Nat.le_of_ble_eq_true rfl) ?_
  simp -dsimp (disch := first | omega | (simp only [LR] <;> omega) | fail) only [push_cast, simprocAttr, -Nat.reduceSubDiff]
  refine callC (widthOk ..) ?_
  simp -dsimp (disch := first | omega | (simp only [inB, h, and_self, LR] <;> omega) | fail) only [push_cast, inB, h, and_self, simprocAttr, -Nat.reduceSubDiff]
  refine callC (sum64 _ ht) ?_
  have hr := hash64_r (bt t)
  generalize hash64 (bt t) = H at hr ⊢
  simp -dsimp (disch := first | omega | (simp only [LR] <;> omega) | fail) only [push_cast, simprocAttr, -Nat.reduceSubDiff]
  refine loop_ind (α := Nat) (fun i => i ≤ n) (fun i => ⟨[(1, .sc (.int .i64 n)), (5, .sc (.int .u64 H)), (6, .ow 1 0 n), (16, .sc (.int .i64 n)), (17, .sc (.int .i64 i))], [(1, .ar 1 0 (((be n H).take i ++ List.replicate (n - i) 0).map numR))], 2⟩) (fun i => n - i) 0 (Nat.zero_le _) ?_ ?_
  · simp -dsimp (disch := first | omega | (simp only [List.map_replicate, numR, Nat.sub_zero, LR] <;> omega) | fail) only [push_cast, List.map_replicate, numR, Nat.sub_zero, simprocAttr, -Nat.reduceSubDiff]
  intro i hi ih
  by_cases h2 : i < n
  · obtain ⟨x, hx⟩ := ex_get (show i < ((be n H).take i ++ List.replicate (n - i) 0).length by simp [be_len]; omega)
    have e : wr .u8 (H.fdiv (2 ^ (min (8 * ((n : Int) - 1 - i)).toNat IntKind.u64.bits))) = H / 256 ^ (n - 1 - i) % 256 := by
      rw [show (8 * ((n : Int) - 1 - i)).toNat = 8 * (n - 1 - i) by omega,
        show IntKind.u64.bits = 64 from rfl, Nat.min_eq_left (by omega), Int.pow_mul, wr_u8, Int.fdiv_eq_ediv_of_nonneg _ (Int.pow_nonneg (by decide))]
      rfl
    simp -dsimp (disch := first | omega | (simp only [wr_id, e, hx, numR, LR] <;> omega) | fail) only [push_cast, wr_id, e, hx, numR, simprocAttr, -Nat.reduceSubDiff]
    refine ih (i + 1) _ (by omega) h2 ?_
    have ee : (((be n H).take i ++ List.replicate (n - i) 0).map numR).set i [.sc (.int .u8 (H / 256 ^ (n - 1 - i) % 256))] = ((be n H).take (i + 1) ++ List.replicate (n - (i + 1)) 0).map numR := by
      rw [show ([.sc (.int .u8 (H / 256 ^ (n - 1 - i) % 256))] : Row) = numR (H / 256 ^ (n - 1 - i) % 256) from rfl, ← List.map_set, take_step (be_get n H i h2), List.set_append_right _ _ (by simp [be_len]; omega), show n - i = n - (i + 1) + 1 by omega, List.replicate_succ]
      simp [be_len, Nat.min_eq_left hi]
    simp -dsimp (disch := first | omega | (simp only [wr_id, ee, LR] <;> omega) | fail) only [push_cast, wr_id, ee, simprocAttr, -Nat.reduceSubDiff]
  · have hn : i = n := by omega
    subst hn
    have e : (be i H).take i ++ List.replicate (i - i) 0 = be i H := by rw [List.take_of_length_le (by rw [be_len]; omega)]; simp
    simp -dsimp (disch := first | omega | (simp only [e, be_len, bytesOf_num, strN, LR] <;> omega) | fail) only [push_cast, e, be_len, bytesOf_num, strN, simprocAttr, -Nat.reduceSubDiff]
end Go.Proofs.YtkkmgjhfjhcdmaaGreatDoor.Mx

/- Lists' forms. -/
namespace Go.Proofs.YtkkmgjhfjhcdmaaGreatDoor.Mx
set_option linter.all false
open Go Go.RowKit Go.Proofs
set_option linter.unusedSimpArgs false
theorem inB_and (a b c : Int) : inB a b c = (decide (b ≤ a) && decide (a ≤ c)) := by
  unfold inB; by_cases h : b ≤ a <;> by_cases h2 : a ≤ c <;> simp [h, h2]
def E114 : Env := { T := T0, kp := look [(0, [0, 1]), (1, [1, 2]), (2, []), (3, [1, 2]), (4, [1, 27, 28, 29]), (5, [1, 27, 28, 29]), (6, [1, 6, 27, 28, 29]), (7, []), (8, [1, 27, 28, 29]), (9, [])] }
attribute [local push_cast] E114
set_option maxRecDepth 20000 in
set_option maxHeartbeats 1000000 in
theorem listOk (l : Lst) (w : Int) (hl : l.S.length ≤ 2097152) : Does Tryz.prog 114 [.ag (lstC false l), .sc (.int .i64 w)] (.sc (.bool (okLs l w)), []) := by
  refine does_of (E := E114) (rs := [.tmp 4]) (lent := []) tOk rfl Tryz.func114 rfl (by decide) rfl rfl (Nat.le_of_ble_eq_true rfl) (Nat.le_of_ble_eq_true rfl) ?_
  obtain ⟨M, hM⟩ : ∃ M, M = okLs l w := ⟨_, rfl⟩
  rw [← hM]
  unfold okLs at hM
  (simp -dsimp (disch := first | omega | (simp only [LR] <;> omega) | fail) only [push_cast, simprocAttr, -Nat.reduceSubDiff]) <;> (repeat (refine (aw_draw (by kernel_rfl)).2 ?_; simp -dsimp (disch := first | omega | (simp only [LR] <;> omega) | fail) only [push_cast, simprocAttr, -Nat.reduceSubDiff]))
  refine callC (widthOk ..) ?_
  by_cases c1 : inB w 1 8 = true
  rotate_left
  · have hv : M = false := by rw [hM]; simp [c1]
    (simp -dsimp (disch := first | omega | (simp only [c1, hv, LR] <;> omega) | fail) only [push_cast, c1, hv, simprocAttr, -Nat.reduceSubDiff]) <;> (repeat (refine (aw_draw (by kernel_rfl)).2 ?_; simp -dsimp (disch := first | omega | (simp only [c1, hv, LR] <;> omega) | fail) only [push_cast, c1, hv, simprocAttr, -Nat.reduceSubDiff]))
  by_cases c2 : 0 ≤ l.sz
  rotate_left
  · have hv : M = false := by rw [hM]; simp [inB_and l.sz, c2]
    (simp -dsimp (disch := first | omega | (simp only [c1, hv, LR] <;> omega) | fail) only [push_cast, c1, hv, simprocAttr, -Nat.reduceSubDiff]) <;> (repeat (refine (aw_draw (by kernel_rfl)).2 ?_; simp -dsimp (disch := first | omega | (simp only [c1, hv, LR] <;> omega) | fail) only [push_cast, c1, hv, simprocAttr, -Nat.reduceSubDiff]))
  by_cases c3 : l.sz ≤ 3000
  rotate_left
  · have hv : M = false := by rw [hM]; simp [inB_and l.sz, c3]
    (simp -dsimp (disch := first | omega | (simp only [c1, hv, LR] <;> omega) | fail) only [push_cast, c1, hv, simprocAttr, -Nat.reduceSubDiff]) <;> (repeat (refine (aw_draw (by kernel_rfl)).2 ?_; simp -dsimp (disch := first | omega | (simp only [c1, hv, LR] <;> omega) | fail) only [push_cast, c1, hv, simprocAttr, -Nat.reduceSubDiff]))
  by_cases c4 : l.S.length ≤ 375
  rotate_left
  · have hv : M = false := by rw [hM]; simp [c4]
    (simp -dsimp (disch := first | omega | (simp only [c1, hv, LR] <;> omega) | fail) only [push_cast, c1, hv, simprocAttr, -Nat.reduceSubDiff]) <;> (repeat (refine (aw_draw (by kernel_rfl)).2 ?_; simp -dsimp (disch := first | omega | (simp only [c1, hv, LR] <;> omega) | fail) only [push_cast, c1, hv, simprocAttr, -Nat.reduceSubDiff]))
  have hM : (l.S.all fun s => decide ((s.size : Int) = w)) = M := by rw [hM]; simp [inB_and l.sz, c1, c2, c3, c4]
  (simp -dsimp (disch := first | omega | (simp only [c1, LR] <;> omega) | fail) only [push_cast, c1, simprocAttr, -Nat.reduceSubDiff]) <;> (repeat (refine (aw_draw (by kernel_rfl)).2 ?_; simp -dsimp (disch := first | omega | (simp only [c1, LR] <;> omega) | fail) only [push_cast, c1, simprocAttr, -Nat.reduceSubDiff]))
  refine loop_ind (α := Nat) (fun i => i ≤ l.S.length ∧ ((l.S.drop i).all fun s => decide ((s.size : Int) = w)) = M)
    (fun i => ⟨[(1, .sc (.int .i64 w)), (27, .sl false 1 (l.S.map strR)), (28, .sc (.int .i64 l.S.length)), (29, .sc (.int .i64 i))], [], 1⟩) (fun i => l.S.length - i) 0 ⟨Nat.zero_le _, hM⟩ ?_ ?_
  · simp -dsimp (disch := first | omega | (simp only [LR] <;> omega) | fail) only [push_cast, simprocAttr, -Nat.reduceSubDiff]
  rintro i ⟨hi, hy⟩ ih
  by_cases h : i < l.S.length
  · obtain ⟨x, hx⟩ := ex_get h
    rw [drop_step hx, List.all_cons] at hy
    by_cases e : (x.size : Int) = w
    · (simp -dsimp (disch := first | omega | (simp only [hx, e, LR] <;> omega) | fail) only [push_cast, hx, e, simprocAttr, -Nat.reduceSubDiff]) <;> (repeat (refine (aw_draw (by kernel_rfl)).2 ?_; simp -dsimp (disch := first | omega | (simp only [hx, e, LR] <;> omega) | fail) only [push_cast, hx, e, simprocAttr, -Nat.reduceSubDiff]))
      refine ih (i + 1) _ (by omega) ⟨h, by rw [← hy]; simp [e]⟩ ?_
      simp -dsimp (disch := first | omega | (simp only [wr_id, LR] <;> omega) | fail) only [push_cast, wr_id, simprocAttr, -Nat.reduceSubDiff]
    · have hy : false = M := by rw [← hy]; simp [e]
      (simp -dsimp (disch := first | omega | (simp only [hx, e, ← hy, LR] <;> omega) | fail) only [push_cast, hx, e, ← hy, simprocAttr, -Nat.reduceSubDiff]) <;> (repeat (refine (aw_draw (by kernel_rfl)).2 ?_; simp -dsimp (disch := first | omega | (simp only [hx, e, ← hy, LR] <;> omega) | fail) only [push_cast, hx, e, ← hy, simprocAttr, -Nat.reduceSubDiff]))
  · rw [List.drop_eq_nil_of_le (by omega)] at hy
    have hy : true = M := by rw [← hy]; rfl
    (simp -dsimp (disch := first | omega | (simp only [← hy, LR] <;> omega) | fail) only [push_cast, ← hy, simprocAttr, -Nat.reduceSubDiff]) <;> (repeat (refine (aw_draw (by kernel_rfl)).2 ?_; simp -dsimp (disch := first | omega | (simp only [← hy, LR] <;> omega) | fail) only [push_cast, ← hy, simprocAttr, -Nat.reduceSubDiff]))
def E117 : Env := { T := T0, kp := look [(0, [0, 1]), (1, [1, 2]), (2, []), (3, [1, 2]), (4, [1, 2, 5]), (5, [1, 2, 5]), (6, [1, 2, 5]), (7, []), (8, [])] }
attribute [local push_cast] E117
set_option maxRecDepth 20000 in
set_option maxHeartbeats 1000000 in
theorem l3Ok (l : Lst) (w : Int) (hl : l.S.length ≤ 2097152) : Does Tryz.prog 117 [.ag (lstC false l), .sc (.int .i64 w)] (.sc (.bool (okLs l w)), []) := by
  refine does_of (E := E117) (rs := [.tmp 4]) (lent := []) tOk rfl Tryz.func117 rfl (by decide) rfl rfl (Nat.le_of_ble_eq_true rfl) (Nat.le_of_ble_eq_true rfl) ?_
  obtain ⟨M, hM⟩ : ∃ M, M = okLs l w := ⟨_, rfl⟩
  rw [← hM]
  unfold okLs at hM
  (simp -dsimp (disch := first | omega | (simp only [LR] <;> omega) | fail) only [push_cast, simprocAttr, -Nat.reduceSubDiff]) <;> (repeat (refine (aw_draw (by kernel_rfl)).2 ?_; simp -dsimp (disch := first | omega | (simp only [LR] <;> omega) | fail) only [push_cast, simprocAttr, -Nat.reduceSubDiff]))
  refine callC (l1Width ..) ?_
  by_cases c1 : inB w 1 8 = true
  rotate_left
  · have hv : M = false := by rw [hM]; simp [c1]
    (simp -dsimp (disch := first | omega | (simp only [c1, hv, LR] <;> omega) | fail) only [push_cast, c1, hv, simprocAttr, -Nat.reduceSubDiff]) <;> (repeat (refine (aw_draw (by kernel_rfl)).2 ?_; simp -dsimp (disch := first | omega | (simp only [c1, hv, LR] <;> omega) | fail) only [push_cast, c1, hv, simprocAttr, -Nat.reduceSubDiff]))
  (simp -dsimp (disch := first | omega | (simp only [c1, LR] <;> omega) | fail) only [push_cast, c1, simprocAttr, -Nat.reduceSubDiff]) <;> (repeat (refine (aw_draw (by kernel_rfl)).2 ?_; simp -dsimp (disch := first | omega | (simp only [c1, LR] <;> omega) | fail) only [push_cast, c1, simprocAttr, -Nat.reduceSubDiff]))
  refine callC (l1In ..) ?_
  by_cases c2 : inB l.sz 0 3000 = true
  rotate_left
  · have hv : M = false := by rw [hM]; simp [c2]
    (simp -dsimp (disch := first | omega | (simp only [c2, hv, LR] <;> omega) | fail) only [push_cast, c2, hv, simprocAttr, -Nat.reduceSubDiff]) <;> (repeat (refine (aw_draw (by kernel_rfl)).2 ?_; simp -dsimp (disch := first | omega | (simp only [c2, hv, LR] <;> omega) | fail) only [push_cast, c2, hv, simprocAttr, -Nat.reduceSubDiff]))
  by_cases c4 : l.S.length ≤ 375
  rotate_left
  · have hv : M = false := by rw [hM]; simp [c4]
    (simp -dsimp (disch := first | omega | (simp only [c2, hv, LR] <;> omega) | fail) only [push_cast, c2, hv, simprocAttr, -Nat.reduceSubDiff]) <;> (repeat (refine (aw_draw (by kernel_rfl)).2 ?_; simp -dsimp (disch := first | omega | (simp only [c2, hv, LR] <;> omega) | fail) only [push_cast, c2, hv, simprocAttr, -Nat.reduceSubDiff]))
  have hM : (l.S.all fun s => decide ((s.size : Int) = w)) = M := by rw [hM]; simp [c1, c2, c4]
  (simp -dsimp (disch := first | omega | (simp only [c2, LR] <;> omega) | fail) only [push_cast, c2, simprocAttr, -Nat.reduceSubDiff]) <;> (repeat (refine (aw_draw (by kernel_rfl)).2 ?_; simp -dsimp (disch := first | omega | (simp only [c2, LR] <;> omega) | fail) only [push_cast, c2, simprocAttr, -Nat.reduceSubDiff]))
  refine loop_ind (α := Nat) (fun i => i ≤ l.S.length ∧ ((l.S.drop i).all fun s => decide ((s.size : Int) = w)) = M)
    (fun i => ⟨[(1, .sc (.int .i64 w)), (2, .pt 1 0 0), (5, .sc (.int .i64 i))], [(1, .bx (lstC false l))], 2⟩) (fun i => l.S.length - i) 0 ⟨Nat.zero_le _, hM⟩ ?_ ?_
  · simp -dsimp (disch := first | omega | (simp only [LR] <;> omega) | fail) only [push_cast, simprocAttr, -Nat.reduceSubDiff]
  rintro i ⟨hi, hy⟩ ih
  by_cases h : i < l.S.length
  · obtain ⟨x, hx⟩ := ex_get h
    rw [drop_step hx, List.all_cons] at hy
    by_cases e : (x.size : Int) = w
    · (simp -dsimp (disch := first | omega | (simp only [hx, e, LR] <;> omega) | fail) only [push_cast, hx, e, simprocAttr, -Nat.reduceSubDiff]) <;> (repeat (refine (aw_draw (by kernel_rfl)).2 ?_; simp -dsimp (disch := first | omega | (simp only [hx, e, LR] <;> omega) | fail) only [push_cast, hx, e, simprocAttr, -Nat.reduceSubDiff]))
      refine ih (i + 1) _ (by omega) ⟨h, by rw [← hy]; simp [e]⟩ ?_
      simp -dsimp (disch := first | omega | (simp only [wr_id, LR] <;> omega) | fail) only [push_cast, wr_id, simprocAttr, -Nat.reduceSubDiff]
    · have hy : false = M := by rw [← hy]; simp [e]
      (simp -dsimp (disch := first | omega | (simp only [hx, e, ← hy, LR] <;> omega) | fail) only [push_cast, hx, e, ← hy, simprocAttr, -Nat.reduceSubDiff]) <;> (repeat (refine (aw_draw (by kernel_rfl)).2 ?_; simp -dsimp (disch := first | omega | (simp only [hx, e, ← hy, LR] <;> omega) | fail) only [push_cast, hx, e, ← hy, simprocAttr, -Nat.reduceSubDiff]))
  · rw [List.drop_eq_nil_of_le (by omega)] at hy
    have hy : true = M := by rw [← hy]; rfl
    (simp -dsimp (disch := first | omega | (simp only [← hy, LR] <;> omega) | fail) only [push_cast, ← hy, simprocAttr, -Nat.reduceSubDiff]) <;> (repeat (refine (aw_draw (by kernel_rfl)).2 ?_; simp -dsimp (disch := first | omega | (simp only [← hy, LR] <;> omega) | fail) only [push_cast, ← hy, simprocAttr, -Nat.reduceSubDiff]))
theorem decD_len : ∀ n : Nat, (Lib.decDigits n).length ≤ n + 1 := by
  intro n
  induction n using Nat.strongRecOn with
  | _ n ih =>
    rw [Lib.decDigits]
    split
    · simp
    · have := ih (n / 10) (by omega)
      rw [List.length_append, List.length_cons, List.length_nil]; omega
def E107 : Env := { T := T0, kp := look [(0, [0]), (1, [0]), (2, [0]), (3, [0])], dp := look2 [(3, [[], [0], [0, 1], [], [3], [3, 4], [3, 4, 5], [3, 4, 5, 6], [3, 4, 5, 6, 7], [0, 1, 2, 3, 4, 5, 6, 7, 8], [0, 1, 2, 3, 4, 5, 6, 7, 8, 9]])] }
attribute [local push_cast] E107
set_option maxRecDepth 20000 in
set_option maxHeartbeats 1000000 in
theorem l3Dec_step (n : Nat) (hn : n ≤ 1000000) (ih : ∀ q : Nat, q < n → q ≤ 1000000 → Does Tryz.prog 107 [.sc (.int .i64 q)] (.sc (.string (stB (Lib.decDigits q))), [])) : Does Tryz.prog 107 [.sc (.int .i64 n)] (.sc (.string (stB (Lib.decDigits n))), []) := by
  refine does_of (E := E107) (rs := [.tmp 2]) (lent := []) tOk rfl Tryz.func107 rfl (by decide) rfl rfl (Nat.le_of_ble_eq_true rfl) (Nat.le_of_ble_eq_true rfl) ?_
  obtain ⟨R, hR⟩ : ∃ R, R = stB (Lib.decDigits n) := ⟨_, rfl⟩
  rw [← hR]
  by_cases h : n < 10
  · have e : (⟨#[UInt8.ofNat (wr .u8 (48 + (n : Int))).toNat]⟩ : ByteArray) = R := by
      rw [hR, Lib.decDigits, dif_pos h]
      have : (wr .u8 (48 + (n : Int))).toNat = 48 + n := by rw [wr_u8]; omega
      rw [this]; rfl
    clear hR ih
    (simp -dsimp (disch := first | omega | (simp only [h, wr_id, e, LR] <;> omega) | fail) only [push_cast, h, wr_id, e, simprocAttr, -Nat.reduceSubDiff]) <;> (repeat (refine (aw_draw (by kernel_rfl)).2 ?_; simp -dsimp (disch := first | omega | (simp only [h, wr_id, e, LR] <;> omega) | fail) only [push_cast, h, wr_id, e, simprocAttr, -Nat.reduceSubDiff]))
  · obtain ⟨q, hq⟩ : ∃ q, q = n / 10 := ⟨_, rfl⟩
    obtain ⟨r, hr⟩ : ∃ r, r = n % 10 := ⟨_, rfl⟩
    have e1 : (n : Int).tdiv 10 = (q : Int) := by rw [hq, Int.tdiv_eq_ediv_of_nonneg (by omega)]; rfl
    have e2 : (n : Int).tmod 10 = (r : Int) := by rw [hr, Int.tmod_eq_emod_of_nonneg (by omega)]; rfl
    have hr9 : r < 10 := by omega
    have hqn : q < n := by omega
    have hc := ih q hqn (by omega)
    have hdl := decD_len q
    obtain ⟨X, hX⟩ : ∃ X, X = stB (Lib.decDigits q) := ⟨_, rfl⟩
    have hXs : X.size ≤ q + 1 := by rw [hX, stB_size]; exact hdl
    have e : X ++ strN [wr .u8 (48 + (r : Int))] = R := by
      have : (wr .u8 (48 + (r : Int))).toNat = 48 + r := by rw [wr_u8]; omega
      rw [← strN_one, this, hR, hX, Lib.decDigits.eq_def n, dif_neg h, ← hq, ← hr, ← stB_app]; rfl
    have es : (strN [wr .u8 (48 + (r : Int))]).size = 1 := by rw [strN_size]; rfl
    rw [← hX] at hc
    clear hR hX ih hq hr hdl
    (simp -dsimp (disch := first | omega | (simp only [h, e1, wr_id, LR] <;> omega) | fail) only [push_cast, h, e1, wr_id, simprocAttr, -Nat.reduceSubDiff]) <;> (repeat (refine (aw_draw (by kernel_rfl)).2 ?_; simp -dsimp (disch := first | omega | (simp only [h, e1, wr_id, LR] <;> omega) | fail) only [push_cast, h, e1, wr_id, simprocAttr, -Nat.reduceSubDiff]))
    refine callC hc ?_
    (simp -dsimp (disch := first | omega | (simp only [h, e1, e2, wr_id, strN_one, e, es, LR] <;> omega) | fail) only [push_cast, h, e1, e2, wr_id, strN_one, e, es, simprocAttr, -Nat.reduceSubDiff]) <;> (repeat (refine (aw_draw (by kernel_rfl)).2 ?_; simp -dsimp (disch := first | omega | (simp only [h, e1, e2, wr_id, strN_one, e, es, LR] <;> omega) | fail) only [push_cast, h, e1, e2, wr_id, strN_one, e, es, simprocAttr, -Nat.reduceSubDiff]))
theorem l3Dec : ∀ n : Nat, n ≤ 1000000 → Does Tryz.prog 107 [.sc (.int .i64 n)] (.sc (.string (stB (Lib.decDigits n))), []) := by
  intro n
  induction n using Nat.strongRecOn with
  | _ n ih => exact fun hn => l3Dec_step n hn ih
theorem rep2 {α : Type} (a : α) : List.replicate 2 a = [a, a] := rfl
attribute [local push_cast] rep2
def E118 : Env := { T := T0, kp := look [(0, [0]), (1, [0]), (2, [0, 3]), (3, [0, 3, 4]), (4, [0, 3, 4, 5]), (5, [0, 3, 4, 5]), (6, [0, 3, 4, 5]), (7, [4])], dp := look2 [(6, [[], [], [], [], [2, 3], [2, 3, 4], [1, 2, 3, 4, 5], [], [], [], [8, 9], [8, 9, 10], [7, 8, 9, 10, 11], [1, 2, 3, 4, 5, 6, 7, 8, 9, 10, 11, 12], [0, 1, 2, 3, 4, 5, 6, 7, 8, 9, 10, 11, 12, 13], [0, 1, 2, 3, 4, 5, 6, 7, 8, 9, 10, 11, 12, 13, 14]])] }
attribute [local push_cast] E118
set_option maxRecDepth 20000 in
set_option maxHeartbeats 1000000 in
theorem l3Hex (s : Str) (hs : s.size ≤ 1000000) : Does Tryz.prog 118 [.sc (.string s)] (.sc (.string (stB (Lib.Hx.encode (bt s)))), []) := by
  refine does_of (E := E118) (rs := [.tmp 2]) (lent := []) tOk rfl Tryz.func118 rfl (by decide) rfl rfl (Nat.le_of_ble_eq_true rfl) (Nat.le_of_ble_eq_true rfl) ?_
  obtain ⟨T, hT⟩ : ∃ T : Str, T = ⟨#[48, 49, 50, 51, 52, 53, 54, 55, 56, 57, 97, 98, 99, 100, 101, 102]⟩ := ⟨_, rfl⟩
  (simp -dsimp (disch := first | omega | (simp only [LR] <;> omega) | fail) only [push_cast, simprocAttr, -Nat.reduceSubDiff]) <;> (repeat (refine (aw_draw (by kernel_rfl)).2 ?_; simp -dsimp (disch := first | omega | (simp only [LR] <;> omega) | fail) only [push_cast, simprocAttr, -Nat.reduceSubDiff]))
  refine loop_ind (α := Nat) (fun i => i ≤ s.size)
    (fun i => ⟨[(0, .sc (.string s)), (3, .sc (.string T)), (4, .ow 1 0 (Lib.Hx.encode ((bt s).take i)).length), (5, .sc (.int .i64 i))], [(1, .ar 1 0 ((Lib.Hx.encode ((bt s).take i)).map byteRow))], 2⟩) (fun i => s.size - i) 0 (Nat.zero_le _) ?_ ?_
  · simp -dsimp (disch := first | omega | (simp only [List.take_zero, LR] <;> omega) | fail) only [push_cast, List.take_zero, simprocAttr, -Nat.reduceSubDiff]
    rw [hT]
    rfl
  intro i hi ih
  have hlen : (Lib.Hx.encode ((bt s).take i)).length = 2 * i := by rw [Lib.Hx.encode_length, List.length_take, bt_len]; omega
  by_cases h : i < s.size
  · obtain ⟨u, hu⟩ := ex_get (by rw [bt_len]; exact h : i < (bt s).length)
    have hub : u.toNat < 256 := u.toNat_lt
    obtain ⟨q, hq⟩ : ∃ q, q = u.toNat / 16 := ⟨_, rfl⟩
    obtain ⟨r, hr⟩ : ∃ r, r = u.toNat % 16 := ⟨_, rfl⟩
    have e1 : wr .u8 ((u.toNat : Int).tdiv 16) = (q : Int) := by rw [wr_u8, hq, Int.tdiv_eq_ediv_of_nonneg (by omega)]; omega
    have e2 : (u.toNat : Int).tmod 16 = (r : Int) := by rw [hr, Int.tmod_eq_emod_of_nonneg (by omega)]; omega
    have g : ∀ d : Nat, d < 16 → (bt T)[d]? = some (Lib.Hx.digit d) := by
      intro d hd
      rw [hT]
      have hl : d < Lib.Hx.tab.data.toList.length := hd
      show Lib.Hx.tab.data.toList[d]? = some (Lib.Hx.tab.data.toList[d]?.getD 0)
      rw [List.getElem?_eq_getElem hl]; rfl
    have g1 := g q (by omega)
    have g2 := g r (by omega)
    have hq16 : q < 16 := by omega
    have hr16 : r < 16 := by omega
    have hTs : T.size = 16 := by rw [hT]; rfl
    (simp -dsimp (disch := first | omega | (simp only [hu, e1, e2, g1, g2, hTs, LR] <;> omega) | fail) only [push_cast, hu, e1, e2, g1, g2, hTs, simprocAttr, -Nat.reduceSubDiff]) <;> (repeat (refine (aw_draw (by kernel_rfl)).2 ?_; simp -dsimp (disch := first | omega | (simp only [hu, e1, e2, g1, g2, hTs, LR] <;> omega) | fail) only [push_cast, hu, e1, e2, g1, g2, hTs, simprocAttr, -Nat.reduceSubDiff]))
    refine ih (i + 1) _ (by omega) h ?_
    have e3 : Lib.Hx.encode ((bt s).take (i + 1)) = Lib.Hx.encode ((bt s).take i) ++ [Lib.Hx.digit q, Lib.Hx.digit r] := by
      rw [take_step hu, hq, hr]
      unfold Lib.Hx.encode
      rw [List.flatMap_append]; simp
    rw [e3]
    simp -dsimp (disch := first | omega | (simp only [wr_id, List.length_append, List.length_cons, List.length_nil, List.map_append, List.map_cons, List.map_nil, byteRow, LR] <;> omega) | fail) only [push_cast, wr_id, List.length_append, List.length_cons, List.length_nil, List.map_append, List.map_cons, List.map_nil, byteRow, simprocAttr, -Nat.reduceSubDiff]
    trace_state
  · have hl : (bt s).take i = bt s := List.take_of_length_le (by rw [bt_len]; omega)
    rw [hl] at hlen
    (simp -dsimp (disch := first | omega | (simp only [hl, LR] <;> omega) | fail) only [push_cast, hl, simprocAttr, -Nat.reduceSubDiff]) <;> (repeat (refine (aw_draw (by kernel_rfl)).2 ?_; simp -dsimp (disch := first | omega | (simp only [hl, LR] <;> omega) | fail) only [push_cast, hl, simprocAttr, -Nat.reduceSubDiff]))
    rfl
end Go.Proofs.YtkkmgjhfjhcdmaaGreatDoor.Mx

/- Lists' forms: FormList. -/
namespace Go.Proofs.YtkkmgjhfjhcdmaaGreatDoor.Mx
set_option linter.all false
open Go Go.RowKit Go.Proofs
set_option linter.unusedSimpArgs false
theorem enc_ne {s : Str} (h : 1 ≤ s.size) : bt s ≠ [] := fun e => by
  have : (bt s).length = s.size := bt_len
  rw [e] at this; simp at this; omega
theorem formB_step {l : List Str} {i : Nat} {x : Str} (h : l[i]? = some x) : (l.take (i + 1)).flatMap lineB = (l.take i).flatMap lineB ++ lineB x := by
  rw [take_step h, List.flatMap_append]; simp
def E71 : Env := { T := T0, kp := look [(0, [0, 1]), (1, [1, 2]), (2, []), (3, [2]), (4, [2, 5]), (5, [5, 18, 19, 20]), (6, [5, 18, 19, 20]), (7, [5, 7, 18, 19, 20]), (8, [5, 18, 19, 20]), (9, [5])] }
attribute [local push_cast] E71
set_option maxRecDepth 20000 in
set_option maxHeartbeats 1000000 in
theorem implFormList (l : Lst) (w : Int) (hl : l.S.length ≤ 2097152) : Does Tryz.prog 71 [.ag (lstC false l), .sc (.int .i64 w)] (.sc (.string (formL l w)), []) := by
  refine does_of (E := E71) (rs := [.tmp 4]) (lent := []) tOk rfl Tryz.func71 rfl (by decide) rfl rfl (Nat.le_of_ble_eq_true rfl) (Nat.le_of_ble_eq_true rfl) ?_
  obtain ⟨M, hM⟩ : ∃ M, M = formL l w := ⟨_, rfl⟩
  rw [← hM]
  unfold formL at hM
  (simp -dsimp (disch := first | omega | (simp only [LR] <;> omega) | fail) only [push_cast, simprocAttr, -Nat.reduceSubDiff]) <;> (repeat (refine (aw_draw (by kernel_rfl)).2 ?_; simp -dsimp (disch := first | omega | (simp only [LR] <;> omega) | fail) only [push_cast, simprocAttr, -Nat.reduceSubDiff]))
  refine callC (listOk l w hl) ?_
  cases ho : okLs l w with
  | false =>
    rw [ho, if_neg (by simp)] at hM
    have hM : M = ⟨#[]⟩ := hM
    (simp -dsimp (disch := first | omega | (simp only [hM, LR] <;> omega) | fail) only [push_cast, hM, simprocAttr, -Nat.reduceSubDiff]) <;> (repeat (refine (aw_draw (by kernel_rfl)).2 ?_; simp -dsimp (disch := first | omega | (simp only [hM, LR] <;> omega) | fail) only [push_cast, hM, simprocAttr, -Nat.reduceSubDiff]))
  | true =>
  rw [ho, if_pos rfl] at hM
  obtain ⟨w1, w8, s0, s3, hn, hsz⟩ := okLs_up ho
  obtain ⟨N, hN⟩ : ∃ N : Nat, l.sz = N := ⟨l.sz.toNat, by omega⟩
  have hit := itoa N (by omega)
  rw [← hN] at hit
  have hNt : l.sz.toNat = N := by omega
  have hdl := decD_len N
  obtain ⟨P, hP⟩ : ∃ P, P = sizB ++ Lib.decDigits N ++ [10] := ⟨_, rfl⟩
  have hPl : P.length ≤ 3010 := by rw [hP]; simp [sizB]; omega
  have hMf : M = stB (P ++ l.S.flatMap lineB) := by rw [hM, formB, hNt, hP]
  have z1 : (⟨#[115, 105, 122, 101, 32]⟩ : ByteArray) = stB sizB := rfl
  have z2 : (⟨#[10]⟩ : ByteArray) = stB [10] := rfl
  have z3 : stB sizB ++ stB (Lib.decDigits N) = stB (sizB ++ Lib.decDigits N) := stB_app _ _
  have z4 : stB (sizB ++ Lib.decDigits N) ++ stB [10] = stB P := by rw [stB_app, hP]
  have z5 : (stB sizB).size = 5 := rfl
  have z6 : (stB (Lib.decDigits N)).size ≤ 3001 := by rw [stB_size]; omega
  have z7 : (stB (sizB ++ Lib.decDigits N)).size ≤ 3006 := by rw [stB_size, List.length_append]; simp [sizB]; omega
  have z8 : (stB [10]).size = 1 := rfl
  have z9 : (stB P).size ≤ 3010 := by rw [stB_size]; exact hPl
  clear hM hP
  generalize stB (Lib.decDigits N) = D at *
  generalize stB (sizB ++ Lib.decDigits N) = D2 at *
  (simp -dsimp (disch := first | omega | (simp only [LR] <;> omega) | fail) only [push_cast, simprocAttr, -Nat.reduceSubDiff]) <;> (repeat (refine (aw_draw (by kernel_rfl)).2 ?_; simp -dsimp (disch := first | omega | (simp only [LR] <;> omega) | fail) only [push_cast, simprocAttr, -Nat.reduceSubDiff]))
  refine callC hit ?_
  (simp -dsimp (disch := first | omega | (simp only [z1, z2, z3, z4, z5, z8, LR] <;> omega) | fail) only [push_cast, z1, z2, z3, z4, z5, z8, simprocAttr, -Nat.reduceSubDiff]) <;> (repeat (refine (aw_draw (by kernel_rfl)).2 ?_; simp -dsimp (disch := first | omega | (simp only [z1, z2, z3, z4, z5, z8, LR] <;> omega) | fail) only [push_cast, z1, z2, z3, z4, z5, z8, simprocAttr, -Nat.reduceSubDiff]))
  refine loop_ind (α := Nat) (fun i => i ≤ l.S.length)
    (fun i => ⟨[(5, .sc (.string (stB (P ++ (l.S.take i).flatMap lineB)))), (18, .sl false 1 (l.S.map strR)), (19, .sc (.int .i64 l.S.length)), (20, .sc (.int .i64 i))], [], 1⟩) (fun i => l.S.length - i) 0 (Nat.zero_le _) ?_ ?_
  · simp -dsimp (disch := first | omega | (simp only [List.take_zero, List.flatMap_nil, List.append_nil, LR] <;> omega) | fail) only [push_cast, List.take_zero, List.flatMap_nil, List.append_nil, simprocAttr, -Nat.reduceSubDiff]
  intro i hi ih
  have hlt := lines_len (S := l.S.take i) (fun s hs => hsz s (List.mem_of_mem_take hs)) w8
  rw [List.length_take] at hlt
  by_cases h : i < l.S.length
  · obtain ⟨x, hx⟩ := ex_get h
    have hxs := hsz x (List.mem_of_getElem? hx)
    have y0 : (stB (P ++ (l.S.take i).flatMap lineB)).size ≤ 10000 := by rw [stB_size, List.length_append]; omega
    have y1 : stB (Lib.Hx.encode (bt x)) ++ stB [10] = stB (lineB x) := stB_app _ _
    have y2 : (stB (Lib.Hx.encode (bt x))).size ≤ 16 := by rw [stB_size, Lib.Hx.encode_length, bt_len]; omega
    have y3 : (stB (lineB x)).size ≤ 17 := by rw [stB_size, lineB_len]; omega
    have y4 : stB (P ++ (l.S.take i).flatMap lineB) ++ stB (lineB x) = stB (P ++ (l.S.take (i + 1)).flatMap lineB) := by rw [stB_app, formB_step hx, List.append_assoc]
    have hc := hexEnc (bt x) (enc_ne (by omega)) (by rw [bt_len]; omega)
    generalize stB (Lib.Hx.encode (bt x)) = H at *
    generalize stB (lineB x) = L at *
    generalize stB (P ++ (l.S.take i).flatMap lineB) = A at *
    have hx8 : (x.size ≤ 140737488355328) = True := eq_true (by omega)
    (simp -dsimp (disch := first | omega | (simp only [hx, hx8, LR] <;> omega) | fail) only [push_cast, hx, hx8, simprocAttr, -Nat.reduceSubDiff]) <;> (repeat (refine (aw_draw (by kernel_rfl)).2 ?_; simp -dsimp (disch := first | omega | (simp only [hx, hx8, LR] <;> omega) | fail) only [push_cast, hx, hx8, simprocAttr, -Nat.reduceSubDiff]))
    refine callC hc ?_
    (simp -dsimp (disch := first | omega | (simp only [z2, z8, y1, y4, LR] <;> omega) | fail) only [push_cast, z2, z8, y1, y4, simprocAttr, -Nat.reduceSubDiff]) <;> (repeat (refine (aw_draw (by kernel_rfl)).2 ?_; simp -dsimp (disch := first | omega | (simp only [z2, z8, y1, y4, LR] <;> omega) | fail) only [push_cast, z2, z8, y1, y4, simprocAttr, -Nat.reduceSubDiff]))
    refine ih (i + 1) _ (by omega) h ?_
    simp -dsimp (disch := first | omega | (simp only [wr_id, LR] <;> omega) | fail) only [push_cast, wr_id, simprocAttr, -Nat.reduceSubDiff]
  · have hi : i = l.S.length := by omega
    subst hi
    rw [List.take_length, ← hMf]
    (simp -dsimp (disch := first | omega | (simp only [LR] <;> omega) | fail) only [push_cast, simprocAttr, -Nat.reduceSubDiff]) <;> (repeat (refine (aw_draw (by kernel_rfl)).2 ?_; simp -dsimp (disch := first | omega | (simp only [LR] <;> omega) | fail) only [push_cast, simprocAttr, -Nat.reduceSubDiff]))
def E74 : Env := { T := T0, kp := look [(0, [0, 1]), (1, [1, 2]), (2, []), (3, [2]), (4, [2, 5]), (5, [2, 5, 6]), (6, [2, 5, 6]), (7, [2, 5, 6]), (8, [2, 5, 6]), (9, [5])] }
attribute [local push_cast] E74
set_option maxRecDepth 20000 in
set_option maxHeartbeats 1000000 in
theorem specFormList (l : Lst) (w : Int) (hl : l.S.length ≤ 2097152) : Does Tryz.prog 74 [.ag (lstC false l), .sc (.int .i64 w)] (.sc (.string (formL l w)), []) := by
  refine does_of (E := E74) (rs := [.tmp 4]) (lent := []) tOk rfl Tryz.func74 rfl (by decide) rfl rfl (Nat.le_of_ble_eq_true rfl) (Nat.le_of_ble_eq_true rfl) ?_
  obtain ⟨M, hM⟩ : ∃ M, M = formL l w := ⟨_, rfl⟩
  rw [← hM]
  unfold formL at hM
  (simp -dsimp (disch := first | omega | (simp only [LR] <;> omega) | fail) only [push_cast, simprocAttr, -Nat.reduceSubDiff]) <;> (repeat (refine (aw_draw (by kernel_rfl)).2 ?_; simp -dsimp (disch := first | omega | (simp only [LR] <;> omega) | fail) only [push_cast, simprocAttr, -Nat.reduceSubDiff]))
  refine callC (l3Ok l w hl) ?_
  cases ho : okLs l w with
  | false =>
    rw [ho, if_neg (by simp)] at hM
    have hM : M = ⟨#[]⟩ := hM
    (simp -dsimp (disch := first | omega | (simp only [hM, LR] <;> omega) | fail) only [push_cast, hM, simprocAttr, -Nat.reduceSubDiff]) <;> (repeat (refine (aw_draw (by kernel_rfl)).2 ?_; simp -dsimp (disch := first | omega | (simp only [hM, LR] <;> omega) | fail) only [push_cast, hM, simprocAttr, -Nat.reduceSubDiff]))
  | true =>
  rw [ho, if_pos rfl] at hM
  obtain ⟨w1, w8, s0, s3, hn, hsz⟩ := okLs_up ho
  obtain ⟨N, hN⟩ : ∃ N : Nat, l.sz = N := ⟨l.sz.toNat, by omega⟩
  have hit := l3Dec N (by omega)
  rw [← hN] at hit
  have hNt : l.sz.toNat = N := by omega
  have hdl := decD_len N
  obtain ⟨P, hP⟩ : ∃ P, P = sizB ++ Lib.decDigits N ++ [10] := ⟨_, rfl⟩
  have hPl : P.length ≤ 3010 := by rw [hP]; simp [sizB]; omega
  have hMf : M = stB (P ++ l.S.flatMap lineB) := by rw [hM, formB, hNt, hP]
  have z1 : (⟨#[115, 105, 122, 101, 32]⟩ : ByteArray) = stB sizB := rfl
  have z2 : (⟨#[10]⟩ : ByteArray) = stB [10] := rfl
  have z3 : stB sizB ++ stB (Lib.decDigits N) = stB (sizB ++ Lib.decDigits N) := stB_app _ _
  have z4 : stB (sizB ++ Lib.decDigits N) ++ stB [10] = stB P := by rw [stB_app, hP]
  have z5 : (stB sizB).size = 5 := rfl
  have z6 : (stB (Lib.decDigits N)).size ≤ 3001 := by rw [stB_size]; omega
  have z7 : (stB (sizB ++ Lib.decDigits N)).size ≤ 3006 := by rw [stB_size, List.length_append]; simp [sizB]; omega
  have z8 : (stB [10]).size = 1 := rfl
  have z9 : (stB P).size = P.length := stB_size P
  have z10 : bt (stB P) = P := bt_stB P
  clear hM hP
  generalize stB (Lib.decDigits N) = D at *
  generalize stB (sizB ++ Lib.decDigits N) = D2 at *
  (simp -dsimp (disch := first | omega | (simp only [LR] <;> omega) | fail) only [push_cast, simprocAttr, -Nat.reduceSubDiff]) <;> (repeat (refine (aw_draw (by kernel_rfl)).2 ?_; simp -dsimp (disch := first | omega | (simp only [LR] <;> omega) | fail) only [push_cast, simprocAttr, -Nat.reduceSubDiff]))
  refine callC hit ?_
  (simp -dsimp (disch := first | omega | (simp only [z1, z2, z3, z4, z5, z8, z9, z10, LR] <;> omega) | fail) only [push_cast, z1, z2, z3, z4, z5, z8, z9, z10, simprocAttr, -Nat.reduceSubDiff]) <;> (repeat (refine (aw_draw (by kernel_rfl)).2 ?_; simp -dsimp (disch := first | omega | (simp only [z1, z2, z3, z4, z5, z8, z9, z10, LR] <;> omega) | fail) only [push_cast, z1, z2, z3, z4, z5, z8, z9, z10, simprocAttr, -Nat.reduceSubDiff]))
  refine loop_ind (α := Nat) (fun i => i ≤ l.S.length)
    (fun i => ⟨[(2, .pt 1 0 0), (5, .ow 2 0 (P ++ (l.S.take i).flatMap lineB).length), (6, .sc (.int .i64 i))], [(1, .bx (lstC false l)), (2, .ar 1 0 ((P ++ (l.S.take i).flatMap lineB).map byteRow))], 3⟩) (fun i => l.S.length - i) 0 (Nat.zero_le _) ?_ ?_
  · simp -dsimp (disch := first | omega | (simp only [List.take_zero, List.flatMap_nil, List.append_nil, LR] <;> omega) | fail) only [push_cast, List.take_zero, List.flatMap_nil, List.append_nil, simprocAttr, -Nat.reduceSubDiff]
  intro i hi ih
  have hlt := lines_len (S := l.S.take i) (fun s hs => hsz s (List.mem_of_mem_take hs)) w8
  rw [List.length_take] at hlt
  have y0 : (P ++ (l.S.take i).flatMap lineB).length ≤ 10000 := by rw [List.length_append]; omega
  by_cases h : i < l.S.length
  · obtain ⟨x, hx⟩ := ex_get h
    have hxs := hsz x (List.mem_of_getElem? hx)
    have y4 : P ++ (l.S.take (i + 1)).flatMap lineB = P ++ (l.S.take i).flatMap lineB ++ Lib.Hx.encode (bt x) ++ [10] := by rw [formB_step hx, lineB]; simp
    have y5 : bt (stB (Lib.Hx.encode (bt x))) = Lib.Hx.encode (bt x) := bt_stB _
    have y6 : (Lib.Hx.encode (bt x)).length ≤ 16 := by rw [Lib.Hx.encode_length, bt_len]; omega
    have hc := l3Hex x (by omega)
    have y7 : ∀ B : List UInt8, (B ++ Lib.Hx.encode (bt x) ++ [10]).map byteRow = B.map byteRow ++ (Lib.Hx.encode (bt x)).map byteRow ++ [[.sc (.int .u8 10)]] := fun B => by rw [List.map_append, List.map_append]; rfl
    (simp -dsimp (disch := first | omega | (simp only [hx, LR] <;> omega) | fail) only [push_cast, hx, simprocAttr, -Nat.reduceSubDiff]) <;> (repeat (refine (aw_draw (by kernel_rfl)).2 ?_; simp -dsimp (disch := first | omega | (simp only [hx, LR] <;> omega) | fail) only [push_cast, hx, simprocAttr, -Nat.reduceSubDiff]))
    refine callC hc ?_
    (simp -dsimp (disch := first | omega | (simp only [y5, LR] <;> omega) | fail) only [push_cast, y5, simprocAttr, -Nat.reduceSubDiff]) <;> (repeat (refine (aw_draw (by kernel_rfl)).2 ?_; simp -dsimp (disch := first | omega | (simp only [y5, LR] <;> omega) | fail) only [push_cast, y5, simprocAttr, -Nat.reduceSubDiff]))
    refine ih (i + 1) _ (by omega) h ?_
    rw [y4, y7]
    simp -dsimp (disch := first | omega | (simp only [wr_id, List.length_append, List.length_cons, List.length_nil, LR] <;> omega) | fail) only [push_cast, wr_id, List.length_append, List.length_cons, List.length_nil, simprocAttr, -Nat.reduceSubDiff]
  · have hi : i = l.S.length := by omega
    subst hi
    rw [List.take_length] at y0 ⊢
    have e : (⟨(P ++ l.S.flatMap lineB).toArray⟩ : ByteArray) = M := hMf.symm
    (simp -dsimp (disch := first | omega | (simp only [e, LR] <;> omega) | fail) only [push_cast, e, simprocAttr, -Nat.reduceSubDiff]) <;> (repeat (refine (aw_draw (by kernel_rfl)).2 ?_; simp -dsimp (disch := first | omega | (simp only [e, LR] <;> omega) | fail) only [push_cast, e, simprocAttr, -Nat.reduceSubDiff]))
end Go.Proofs.YtkkmgjhfjhcdmaaGreatDoor.Mx

/- Pieces. -/
namespace Go.Proofs.YtkkmgjhfjhcdmaaGreatDoor.Mx
set_option linter.all false
open Go Go.RowKit Go.Proofs
set_option linter.unusedSimpArgs false
theorem sixteen (h : Int) (h0 : 0 ≤ h) : h.tmod 16 = h % 16 := Int.tmod_eq_emod_of_nonneg h0
def E119 : Env := { T := T0, kp := look [(0, [0]), (1, [0]), (2, []), (3, [0])] }
attribute [local push_cast] E119
set_option maxHeartbeats 1000000 in
theorem l2Ends (p : Str) (hp : p.size ≤ 100000) : Does Tryz.prog 119 [.sc (.string p)] (.sc (.bool (endsB (bt p))), []) := by
  refine does_of (E := E119) (rs := [.tmp 2]) (lent := []) tOk rfl Tryz.func119 rfl (by decide) rfl rfl (Nat.le_of_ble_eq_true rfl) (Nat.le_of_ble_eq_true rfl) ?_
  obtain ⟨M, hM⟩ : ∃ M, M = endsB (bt p) := ⟨_, rfl⟩
  rw [← hM]
  have he := ends_ext (s := p) (a := 0) (i := p.size) (Nat.le_refl _) (Nat.zero_le _)
  have hc : curB p 0 p.size = bt p := by unfold curB; rw [List.drop_zero, List.take_of_length_le (by rw [bt_len]; exact Nat.le_refl _)]
  rw [hc, ← hM, Nat.sub_zero] at he
  by_cases h8 : 8 ≤ p.size
  rotate_left
  · have hM : M = false := by rw [he]; simp [h8]
    (simp -dsimp (disch := first | omega | (simp only [h8, hM, LR] <;> omega) | fail) only [push_cast, h8, hM, simprocAttr, -Nat.reduceSubDiff]) <;> (repeat (refine (aw_draw (by kernel_rfl)).2 ?_; simp -dsimp (disch := first | omega | (simp only [h8, hM, LR] <;> omega) | fail) only [push_cast, h8, hM, simprocAttr, -Nat.reduceSubDiff]))
  by_cases h64 : 64 ≤ p.size
  · have hM : M = true := by rw [he]; simp [h8, h64]
    (simp -dsimp (disch := first | omega | (simp only [h8, h64, hM, LR] <;> omega) | fail) only [push_cast, h8, h64, hM, simprocAttr, -Nat.reduceSubDiff]) <;> (repeat (refine (aw_draw (by kernel_rfl)).2 ?_; simp -dsimp (disch := first | omega | (simp only [h8, h64, hM, LR] <;> omega) | fail) only [push_cast, h8, h64, hM, simprocAttr, -Nat.reduceSubDiff]))
  have e1 : ((p.size : Int) - 8).toNat = p.size - 8 := by omega
  have e2 : p.size - 8 + ((p.size : Int) - ((p.size : Int) - 8)).toNat = p.size := by omega
  have hz : (p.extract (p.size - 8) p.size).size ≤ 8 := by rw [ext_size (Nat.le_refl _)]; omega
  have hs := l1Sum64 (p.extract (p.size - 8) p.size) (by omega)
  have hr := hash64_r (bt (p.extract (p.size - 8) p.size))
  have ht := sixteen _ hr.1
  generalize hash64 (bt (p.extract (p.size - 8) p.size)) = H at *
  have hM : M = decide (H % 16 = 0) := by rw [he]; simp [h8, h64]
  (simp -dsimp (disch := first | omega | (simp only [h8, h64, e1, e2, wr_id, LR] <;> omega) | fail) only [push_cast, h8, h64, e1, e2, wr_id, simprocAttr, -Nat.reduceSubDiff]) <;> (repeat (refine (aw_draw (by kernel_rfl)).2 ?_; simp -dsimp (disch := first | omega | (simp only [h8, h64, e1, e2, wr_id, LR] <;> omega) | fail) only [push_cast, h8, h64, e1, e2, wr_id, simprocAttr, -Nat.reduceSubDiff]))
  refine callC hs ?_
  (simp -dsimp (disch := first | omega | (simp only [ht, hM, LR] <;> omega) | fail) only [push_cast, ht, hM, simprocAttr, -Nat.reduceSubDiff]) <;> (repeat (refine (aw_draw (by kernel_rfl)).2 ?_; simp -dsimp (disch := first | omega | (simp only [ht, hM, LR] <;> omega) | fail) only [push_cast, ht, hM, simprocAttr, -Nat.reduceSubDiff]))
def E76 : Env := { T := T0, kp := look [(0, [0]), (1, [0]), (2, [0, 3]), (3, [3]), (4, [0, 3]), (5, [0, 3, 4]), (6, [0, 3, 4, 5]), (7, [0, 3, 4, 5]), (8, [0, 3, 4, 5]), (9, [0, 3, 4, 5]), (10, [0, 3, 5]), (11, [3])] }
attribute [local push_cast] E76
set_option maxRecDepth 20000 in
set_option maxHeartbeats 1000000 in
theorem specPieces (t : Str) (ht : t.size ≤ 100000000) : Does Tryz.prog 76 [.sc (.string t)] (.sl true 1 ((piecesL t).map strR), []) := by
  refine does_of (E := E76) (rs := [.tmp 2]) (lent := []) tOk rfl Tryz.func76 rfl (by decide) rfl rfl (Nat.le_of_ble_eq_true rfl) (Nat.le_of_ble_eq_true rfl) ?_
  obtain ⟨M, hM⟩ : ∃ M, M = piecesL t := ⟨_, rfl⟩
  rw [← hM]
  unfold piecesL at hM
  by_cases hbig : 3000 < t.size
  · rw [if_pos hbig] at hM
    subst hM
    (simp -dsimp (disch := first | omega | (simp only [hbig, LR] <;> omega) | fail) only [push_cast, hbig, simprocAttr, -Nat.reduceSubDiff]) <;> (repeat (refine (aw_draw (by kernel_rfl)).2 ?_; simp -dsimp (disch := first | omega | (simp only [hbig, LR] <;> omega) | fail) only [push_cast, hbig, simprocAttr, -Nat.reduceSubDiff]))
  rw [if_neg hbig] at hM
  (simp -dsimp (disch := first | omega | (simp only [hbig, LR] <;> omega) | fail) only [push_cast, hbig, simprocAttr, -Nat.reduceSubDiff]) <;> (repeat (refine (aw_draw (by kernel_rfl)).2 ?_; simp -dsimp (disch := first | omega | (simp only [hbig, LR] <;> omega) | fail) only [push_cast, hbig, simprocAttr, -Nat.reduceSubDiff]))
  refine loop_ind (α := Nat × Nat × List Str) (fun q => q.1 ≤ t.size ∧ q.2.1 ≤ q.1 ∧ (q.1 = t.size → q.2.1 = t.size) ∧ q.2.2.length ≤ q.1 ∧ q.2.2 ++ (pcF (curB t q.2.1 q.1) ((bt t).drop q.1)).map stB = M)
    (fun q => ⟨[(0, .sc (.string t)), (3, .ow 1 0 q.2.2.length), (4, .sc (.int .i64 q.2.1)), (5, .sc (.int .i64 (q.1 + 1)))], [(1, .ar 1 0 (q.2.2.map strR))], 2⟩) (fun q => t.size - q.1) (0, 0, []) ⟨Nat.zero_le _, Nat.le_refl _, fun e => e, Nat.le_refl _, by rw [cur_nil]; simp [hM]⟩ ?_ ?_
  · simp -dsimp (disch := first | omega | (simp only [LR] <;> omega) | fail) only [push_cast, simprocAttr, -Nat.reduceSubDiff]
  rintro ⟨i, a, acc⟩ ⟨hi, ha, hl, hac, hy⟩ ih
  replace hi : i ≤ t.size := hi
  replace ha : a ≤ i := ha
  replace hl : i = t.size → a = t.size := hl
  replace hac : acc.length ≤ i := hac
  replace hy : acc ++ (pcF (curB t a i) ((bt t).drop i)).map stB = M := hy
  by_cases h : i < t.size
  · obtain ⟨x, hx⟩ := ex_get (by rw [bt_len]; exact h : i < (bt t).length)
    rw [drop_step hx] at hy
    have hst := cur_step hx ha
    have hsz := ext_size (s := t) (a := a) (b := i + 1) h
    have hc := l2Ends (t.extract a (i + 1)) (by omega)
    rw [bt_ext, hst] at hc
    have hex : t.extract a (i + 1) = stB (curB t a i ++ [x]) := by rw [ext_cur, hst]
    have e1 : ((i : Int) + 1).toNat = i + 1 := by omega
    have e2 : a + ((i : Int) + 1 - (a : Int)).toNat = i + 1 := by omega
    (simp -dsimp (disch := first | omega | (simp only [e1, e2, LR] <;> omega) | fail) only [push_cast, e1, e2, simprocAttr, -Nat.reduceSubDiff]) <;> (repeat (refine (aw_draw (by kernel_rfl)).2 ?_; simp -dsimp (disch := first | omega | (simp only [e1, e2, LR] <;> omega) | fail) only [push_cast, e1, e2, simprocAttr, -Nat.reduceSubDiff]))
    refine callC hc ?_
    cases hend : endsB (curB t a i ++ [x]) with
    | true =>
      rw [pc_yes hend] at hy
      (simp -dsimp (disch := first | omega | (simp only [e1, e2, LR] <;> omega) | fail) only [push_cast, e1, e2, simprocAttr, -Nat.reduceSubDiff]) <;> (repeat (refine (aw_draw (by kernel_rfl)).2 ?_; simp -dsimp (disch := first | omega | (simp only [e1, e2, LR] <;> omega) | fail) only [push_cast, e1, e2, simprocAttr, -Nat.reduceSubDiff]))
      refine ih (i + 1, i + 1, acc ++ [t.extract a (i + 1)]) _ (by show t.size - (i + 1) < t.size - i; omega) ⟨h, Nat.le_refl _, fun e => e, by simp only [List.length_append, List.length_cons, List.length_nil]; omega, by rw [← hy, cur_nil, hex]; simp⟩ ?_
      simp -dsimp (disch := first | omega | (simp only [wr_id, List.map_append, List.length_append, List.length_cons, List.length_nil, LR] <;> omega) | fail) only [push_cast, wr_id, List.map_append, List.length_append, List.length_cons, List.length_nil, simprocAttr, -Nat.reduceSubDiff]
    | false =>
      by_cases hlast : i + 1 = t.size
      · have hd : (bt t).drop (i + 1) = [] := List.drop_eq_nil_of_le (by rw [bt_len]; omega)
        rw [hd, pc_last] at hy
        have hli : ((i : Int) + 1) = t.size := by omega
        (simp -dsimp (disch := first | omega | (simp only [e1, e2, hlast, LR] <;> omega) | fail) only [push_cast, e1, e2, hlast, simprocAttr, -Nat.reduceSubDiff]) <;> (repeat (refine (aw_draw (by kernel_rfl)).2 ?_; simp -dsimp (disch := first | omega | (simp only [e1, e2, hlast, LR] <;> omega) | fail) only [push_cast, e1, e2, hlast, simprocAttr, -Nat.reduceSubDiff]))
        refine ih (i + 1, i + 1, acc ++ [t.extract a (i + 1)]) _ (by show t.size - (i + 1) < t.size - i; omega) ⟨h, Nat.le_refl _, fun e => e, by simp only [List.length_append, List.length_cons, List.length_nil]; omega, by rw [← hy, cur_nil, hex, hd, pc_end _ rfl]; simp⟩ ?_
        simp -dsimp (disch := first | omega | (simp only [wr_id, List.map_append, List.length_append, List.length_cons, List.length_nil, hlast, hli, LR] <;> omega) | fail) only [push_cast, wr_id, List.map_append, List.length_append, List.length_cons, List.length_nil, hlast, hli, simprocAttr, -Nat.reduceSubDiff]
      · rw [pc_no hend, ← hst] at hy
        have hli : ¬ ((i : Int) + 1) = t.size := by omega
        (simp -dsimp (disch := first | omega | (simp only [e1, e2, hli, LR] <;> omega) | fail) only [push_cast, e1, e2, hli, simprocAttr, -Nat.reduceSubDiff]) <;> (repeat (refine (aw_draw (by kernel_rfl)).2 ?_; simp -dsimp (disch := first | omega | (simp only [e1, e2, hli, LR] <;> omega) | fail) only [push_cast, e1, e2, hli, simprocAttr, -Nat.reduceSubDiff]))
        refine ih (i + 1, a, acc) _ (by show t.size - (i + 1) < t.size - i; omega) ⟨h, by show a ≤ i + 1; omega, fun e => (hlast e).elim, by show acc.length ≤ i + 1; omega, hy⟩ ?_
        simp -dsimp (disch := first | omega | (simp only [wr_id, LR] <;> omega) | fail) only [push_cast, wr_id, simprocAttr, -Nat.reduceSubDiff]
  · have hi : i = t.size := by omega
    have hd : (bt t).drop i = [] := List.drop_eq_nil_of_le (by rw [bt_len]; omega)
    have haa := hl hi
    rw [hd, haa, hi, cur_nil, pc_end _ rfl] at hy
    have hy : acc = M := by simpa using hy
    subst hy
    (simp -dsimp (disch := first | omega | (simp only [hi, LR] <;> omega) | fail) only [push_cast, hi, simprocAttr, -Nat.reduceSubDiff]) <;> (repeat (refine (aw_draw (by kernel_rfl)).2 ?_; simp -dsimp (disch := first | omega | (simp only [hi, LR] <;> omega) | fail) only [push_cast, hi, simprocAttr, -Nat.reduceSubDiff]))
end Go.Proofs.YtkkmgjhfjhcdmaaGreatDoor.Mx

/- Pieces, descriptions and names: the program's; descriptions and names: the reference's. -/
namespace Go.Proofs.YtkkmgjhfjhcdmaaGreatDoor.Mx
set_option linter.all false
open Go Go.RowKit Go.Proofs
set_option linter.unusedSimpArgs false
def E73 : Env := { T := T0, kp := look [(0, [0]), (1, [0]), (2, []), (3, [0]), (4, [0, 3]), (5, [0, 3, 4]), (6, [0, 3, 4, 11, 12]), (7, [0, 3, 4, 11, 12]), (8, [0, 3, 4, 5, 11, 12]), (9, [0, 3, 4, 5, 6, 11, 12]), (10, [0, 3, 4, 5, 11, 12]), (11, [0, 3, 5, 11, 12]), (12, [0, 3, 4, 11, 12]), (13, [0, 3, 4]), (14, [0, 3, 4]), (15, [3])] }
attribute [local push_cast] E73
set_option maxRecDepth 20000 in
set_option maxHeartbeats 1000000 in
theorem implPieces (t : Str) (ht : t.size ≤ 100000000) : Does Tryz.prog 73 [.sc (.string t)] (.sl true 1 ((piecesL t).map strR), []) := by
  refine does_of (E := E73) (rs := [.tmp 2]) (lent := []) tOk rfl Tryz.func73 rfl (by decide) rfl rfl (Nat.le_of_ble_eq_true rfl) (Nat.le_of_ble_eq_true rfl) ?_
  obtain ⟨M, hM⟩ : ∃ M, M = piecesL t := ⟨_, rfl⟩
  rw [← hM]
  unfold piecesL at hM
  by_cases hbig : 3000 < t.size
  · rw [if_pos hbig] at hM
    subst hM
    (simp -dsimp (disch := first | omega | (simp only [hbig, LR] <;> omega) | fail) only [push_cast, hbig, simprocAttr, -Nat.reduceSubDiff]) <;> (repeat (refine (aw_draw (by kernel_rfl)).2 ?_; simp -dsimp (disch := first | omega | (simp only [hbig, LR] <;> omega) | fail) only [push_cast, hbig, simprocAttr, -Nat.reduceSubDiff]))
  rw [if_neg hbig] at hM
  (simp -dsimp (disch := first | omega | (simp only [hbig, LR] <;> omega) | fail) only [push_cast, hbig, simprocAttr, -Nat.reduceSubDiff]) <;> (repeat (refine (aw_draw (by kernel_rfl)).2 ?_; simp -dsimp (disch := first | omega | (simp only [hbig, LR] <;> omega) | fail) only [push_cast, hbig, simprocAttr, -Nat.reduceSubDiff]))
  refine loop_ind (α := Nat × Nat × List Str) (fun q => q.1 ≤ t.size ∧ q.2.1 ≤ q.1 ∧ q.1 ≤ q.2.1 + 63 ∧ q.2.2.length ≤ q.1 ∧ q.2.2 ++ (pcF (curB t q.2.1 q.1) ((bt t).drop q.1)).map stB = M)
    (fun q => ⟨[(0, .sc (.string t)), (3, .ow 1 0 q.2.2.length), (4, .sc (.int .i64 q.2.1)), (11, .sc (.int .i64 t.size)), (12, .sc (.int .i64 q.1))], [(1, .ar 1 0 (q.2.2.map strR))], 2⟩) (fun q => t.size - q.1) (0, 0, []) ⟨Nat.zero_le _, Nat.le_refl _, by simp only; omega, Nat.le_refl _, by rw [cur_nil]; simp [hM]⟩ ?_ ?_
  · simp -dsimp (disch := first | omega | (simp only [LR] <;> omega) | fail) only [push_cast, simprocAttr, -Nat.reduceSubDiff]
  rintro ⟨i, a, acc⟩ ⟨hi, ha, hl, hac, hy⟩ ih
  replace hi : i ≤ t.size := hi
  replace ha : a ≤ i := ha
  replace hl : i ≤ a + 63 := hl
  replace hac : acc.length ≤ i := hac
  replace hy : acc ++ (pcF (curB t a i) ((bt t).drop i)).map stB = M := hy
  by_cases h : i < t.size
  · obtain ⟨x, hx⟩ := ex_get (by rw [bt_len]; exact h : i < (bt t).length)
    rw [drop_step hx] at hy
    have hst := cur_step hx ha
    have hex : t.extract a (i + 1) = stB (curB t a i ++ [x]) := by rw [ext_cur, hst]
    have hen := ends_ext (s := t) (a := a) (i := i + 1) h (by omega)
    rw [hst] at hen
    have e1 : ((i : Int) + 1).toNat = i + 1 := by omega
    have e2 : a + ((i : Int) + 1 - (a : Int)).toNat = i + 1 := by omega
    by_cases h64 : i + 1 - a = 64
    · have hend : endsB (curB t a i ++ [x]) = true := by rw [hen]; simp [h64]
      rw [pc_yes hend] at hy
      have n64 : (i : Int) + 1 - (a : Int) = 64 := by omega
      have e5 : a + 64 = i + 1 := by omega
      (simp -dsimp (disch := first | omega | (simp only [e1, e2, n64, e5, wr_id, LR] <;> omega) | fail) only [push_cast, e1, e2, n64, e5, wr_id, simprocAttr, -Nat.reduceSubDiff]) <;> (repeat (refine (aw_draw (by kernel_rfl)).2 ?_; simp -dsimp (disch := first | omega | (simp only [e1, e2, n64, e5, wr_id, LR] <;> omega) | fail) only [push_cast, e1, e2, n64, e5, wr_id, simprocAttr, -Nat.reduceSubDiff]))
      refine ih (i + 1, i + 1, acc ++ [t.extract a (i + 1)]) _ (by show t.size - (i + 1) < t.size - i; omega) ⟨h, Nat.le_refl _, by show i + 1 ≤ i + 1 + 63; omega, by simp only [List.length_append, List.length_cons, List.length_nil]; omega, by rw [← hy, cur_nil, hex]; simp⟩ ?_
      simp -dsimp (disch := first | omega | (simp only [wr_id, List.map_append, List.length_append, List.length_cons, List.length_nil, LR] <;> omega) | fail) only [push_cast, wr_id, List.map_append, List.length_append, List.length_cons, List.length_nil, simprocAttr, -Nat.reduceSubDiff]
    have n64 : ¬ (i : Int) + 1 - (a : Int) = 64 := by omega
    by_cases h8 : 8 ≤ i + 1 - a
    rotate_left
    · have hend : endsB (curB t a i ++ [x]) = false := by rw [hen]; simp; intro hc; omega
      rw [pc_no hend, ← hst] at hy
      have n8 : ¬ (8 : Int) ≤ (i : Int) + 1 - (a : Int) := by omega
      (simp -dsimp (disch := first | omega | (simp only [e1, e2, n64, n8, wr_id, LR] <;> omega) | fail) only [push_cast, e1, e2, n64, n8, wr_id, simprocAttr, -Nat.reduceSubDiff]) <;> (repeat (refine (aw_draw (by kernel_rfl)).2 ?_; simp -dsimp (disch := first | omega | (simp only [e1, e2, n64, n8, wr_id, LR] <;> omega) | fail) only [push_cast, e1, e2, n64, n8, wr_id, simprocAttr, -Nat.reduceSubDiff]))
      refine ih (i + 1, a, acc) _ (by show t.size - (i + 1) < t.size - i; omega) ⟨h, by show a ≤ i + 1; omega, by show i + 1 ≤ a + 63; omega, by show acc.length ≤ i + 1; omega, hy⟩ ?_
      simp -dsimp (disch := first | omega | (simp only [wr_id, LR] <;> omega) | fail) only [push_cast, wr_id, simprocAttr, -Nat.reduceSubDiff]
    have n8 : (8 : Int) ≤ (i : Int) + 1 - (a : Int) := by omega
    have e3 : ((i : Int) + 1 - 8).toNat = i + 1 - 8 := by omega
    have e4 : i + 1 - 8 + ((i : Int) + 1 - ((i : Int) + 1 - 8)).toNat = i + 1 := by omega
    have hz := ext_size (s := t) (a := i + 1 - 8) (b := i + 1) h
    have hs := sum64 (t.extract (i + 1 - 8) (i + 1)) (by omega)
    have hr := hash64_r (bt (t.extract (i + 1 - 8) (i + 1)))
    have htm := sixteen _ hr.1
    generalize hash64 (bt (t.extract (i + 1 - 8) (i + 1))) = H at *
    have hn64 : ¬ 64 ≤ i + 1 - a := by omega
    by_cases hH : H % 16 = 0
    · have hend : endsB (curB t a i ++ [x]) = true := by rw [hen]; simp [h8, hH]
      rw [pc_yes hend] at hy
      (simp -dsimp (disch := first | omega | (simp only [e1, e2, e3, e4, n64, n8, wr_id, LR] <;> omega) | fail) only [push_cast, e1, e2, e3, e4, n64, n8, wr_id, simprocAttr, -Nat.reduceSubDiff]) <;> (repeat (refine (aw_draw (by kernel_rfl)).2 ?_; simp -dsimp (disch := first | omega | (simp only [e1, e2, e3, e4, n64, n8, wr_id, LR] <;> omega) | fail) only [push_cast, e1, e2, e3, e4, n64, n8, wr_id, simprocAttr, -Nat.reduceSubDiff]))
      refine callC hs ?_
      (simp -dsimp (disch := first | omega | (simp only [htm, hH, e1, e2, wr_id, LR] <;> omega) | fail) only [push_cast, htm, hH, e1, e2, wr_id, simprocAttr, -Nat.reduceSubDiff]) <;> (repeat (refine (aw_draw (by kernel_rfl)).2 ?_; simp -dsimp (disch := first | omega | (simp only [htm, hH, e1, e2, wr_id, LR] <;> omega) | fail) only [push_cast, htm, hH, e1, e2, wr_id, simprocAttr, -Nat.reduceSubDiff]))
      refine ih (i + 1, i + 1, acc ++ [t.extract a (i + 1)]) _ (by show t.size - (i + 1) < t.size - i; omega) ⟨h, Nat.le_refl _, by show i + 1 ≤ i + 1 + 63; omega, by simp only [List.length_append, List.length_cons, List.length_nil]; omega, by rw [← hy, cur_nil, hex]; simp⟩ ?_
      simp -dsimp (disch := first | omega | (simp only [wr_id, List.map_append, List.length_append, List.length_cons, List.length_nil, LR] <;> omega) | fail) only [push_cast, wr_id, List.map_append, List.length_append, List.length_cons, List.length_nil, simprocAttr, -Nat.reduceSubDiff]
    · have hend : endsB (curB t a i ++ [x]) = false := by rw [hen]; simp [hn64, hH]
      rw [pc_no hend, ← hst] at hy
      (simp -dsimp (disch := first | omega | (simp only [e1, e2, e3, e4, n64, n8, wr_id, LR] <;> omega) | fail) only [push_cast, e1, e2, e3, e4, n64, n8, wr_id, simprocAttr, -Nat.reduceSubDiff]) <;> (repeat (refine (aw_draw (by kernel_rfl)).2 ?_; simp -dsimp (disch := first | omega | (simp only [e1, e2, e3, e4, n64, n8, wr_id, LR] <;> omega) | fail) only [push_cast, e1, e2, e3, e4, n64, n8, wr_id, simprocAttr, -Nat.reduceSubDiff]))
      refine callC hs ?_
      (simp -dsimp (disch := first | omega | (simp only [htm, hH, LR] <;> omega) | fail) only [push_cast, htm, hH, simprocAttr, -Nat.reduceSubDiff]) <;> (repeat (refine (aw_draw (by kernel_rfl)).2 ?_; simp -dsimp (disch := first | omega | (simp only [htm, hH, LR] <;> omega) | fail) only [push_cast, htm, hH, simprocAttr, -Nat.reduceSubDiff]))
      refine ih (i + 1, a, acc) _ (by show t.size - (i + 1) < t.size - i; omega) ⟨h, by show a ≤ i + 1; omega, by show i + 1 ≤ a + 63; omega, by show acc.length ≤ i + 1; omega, hy⟩ ?_
      simp -dsimp (disch := first | omega | (simp only [wr_id, LR] <;> omega) | fail) only [push_cast, wr_id, simprocAttr, -Nat.reduceSubDiff]
  · have hi : i = t.size := by omega
    have hd : (bt t).drop i = [] := List.drop_eq_nil_of_le (by rw [bt_len]; omega)
    have hcl := cur_len (s := t) (a := a) (i := i) (by omega)
    rw [hd] at hy
    by_cases hai : a < t.size
    · have hne : ¬ curB t a i = [] := fun e => by rw [e] at hcl; simp at hcl; omega
      rw [pcF, if_neg hne] at hy
      have hex : t.extract a t.size = stB (curB t a i) := by rw [ext_cur, hi]
      have hy : acc.map strR ++ [[.sc (.string (t.extract a t.size))]] = M.map strR := by rw [← hy, hex]; simp [strR]
      have e2 : a + ((t.size : Int) - (a : Int)).toNat = t.size := by omega
      (simp -dsimp (disch := first | omega | (simp only [hi, hai, LR] <;> omega) | fail) only [push_cast, hi, hai, simprocAttr, -Nat.reduceSubDiff]) <;> (repeat (refine (aw_draw (by kernel_rfl)).2 ?_; simp -dsimp (disch := first | omega | (simp only [hi, hai, LR] <;> omega) | fail) only [push_cast, hi, hai, simprocAttr, -Nat.reduceSubDiff]))
      rw [e2, hy]
    · have he : curB t a i = [] := List.length_eq_zero_iff.1 (by rw [hcl]; omega)
      rw [pc_end _ he] at hy
      have hy : acc = M := by simpa using hy
      subst hy
      (simp -dsimp (disch := first | omega | (simp only [hi, hai, LR] <;> omega) | fail) only [push_cast, hi, hai, simprocAttr, -Nat.reduceSubDiff]) <;> (repeat (refine (aw_draw (by kernel_rfl)).2 ?_; simp -dsimp (disch := first | omega | (simp only [hi, hai, LR] <;> omega) | fail) only [push_cast, hi, hai, simprocAttr, -Nat.reduceSubDiff]))
def E113 : Env := { T := T0, kp := look [(0, [0, 1]), (1, [0, 1, 4]), (2, [4]), (3, [0, 1, 4]), (4, [0, 1, 4, 6]), (5, [1, 4, 6, 22, 23, 24]), (6, [1, 4, 6, 22, 23, 24]), (7, [1, 4, 6, 8, 22, 23, 24]), (8, [1, 4, 6, 22, 23, 24]), (9, [4, 6])], dp := look2 [(7, [[], [0], [], [], [2, 3], [2, 3, 4], [0, 1, 2, 3, 4, 5], [0, 1, 2, 3, 4, 5, 6], [0, 1, 2, 3, 4, 5, 6, 7]])] }
attribute [local push_cast] E113
set_option maxRecDepth 20000 in
set_option maxHeartbeats 1000000 in
theorem implDescribe0 (t : Str) (w : Int) (ht : t.size ≤ 100000000) : Does Tryz.prog 113 [.sc (.string t), .sc (.int .i64 w)] (.tu [.ag (lstC true (descL t w).1), .sc (.bool (descL t w).2)], []) := by
  refine does_of (E := E113) (rs := [.cell 4 96, .tmp 5]) (lent := []) tOk rfl Tryz.func113 rfl (by decide) rfl rfl (Nat.le_of_ble_eq_true rfl) (Nat.le_of_ble_eq_true rfl) ?_
  obtain ⟨M, hM⟩ : ∃ M, M = descL t w := ⟨_, rfl⟩
  rw [← hM]
  unfold descL at hM
  by_cases hbig : 3000 < t.size
  · rw [if_pos (.inl hbig)] at hM
    subst hM
    (simp -dsimp (disch := first | omega | (simp only [hbig, emL, LR] <;> omega) | fail) only [push_cast, hbig, emL, simprocAttr, -Nat.reduceSubDiff]) <;> (repeat (refine (aw_draw (by kernel_rfl)).2 ?_; simp -dsimp (disch := first | omega | (simp only [hbig, emL, LR] <;> omega) | fail) only [push_cast, hbig, emL, simprocAttr, -Nat.reduceSubDiff]))
  (simp -dsimp (disch := first | omega | (simp only [hbig, LR] <;> omega) | fail) only [push_cast, hbig, simprocAttr, -Nat.reduceSubDiff]) <;> (repeat (refine (aw_draw (by kernel_rfl)).2 ?_; simp -dsimp (disch := first | omega | (simp only [hbig, LR] <;> omega) | fail) only [push_cast, hbig, simprocAttr, -Nat.reduceSubDiff]))
  refine callC (widthOk w) ?_
  cases hw : inB w 1 8 with
  | false =>
    rw [if_pos (.inr hw)] at hM
    subst hM
    (simp -dsimp (disch := first | omega | (simp only [emL, LR] <;> omega) | fail) only [push_cast, emL, simprocAttr, -Nat.reduceSubDiff]) <;> (repeat (refine (aw_draw (by kernel_rfl)).2 ?_; simp -dsimp (disch := first | omega | (simp only [emL, LR] <;> omega) | fail) only [push_cast, emL, simprocAttr, -Nat.reduceSubDiff]))
  | true =>
  rw [if_neg (by rintro (q | q); exact hbig q; rw [hw] at q; cases q)] at hM
  subst hM
  (simp -dsimp (disch := first | omega | (simp only [LR] <;> omega) | fail) only [push_cast, simprocAttr, -Nat.reduceSubDiff]) <;> (repeat (refine (aw_draw (by kernel_rfl)).2 ?_; simp -dsimp (disch := first | omega | (simp only [LR] <;> omega) | fail) only [push_cast, simprocAttr, -Nat.reduceSubDiff]))
  refine callC (implPieces t ht) ?_
  have hpl := pieces_len t
  have hps := fun p (hp : p ∈ piecesL t) => pieces_sz hp
  generalize piecesL t = P at *
  (simp -dsimp (disch := first | omega | (simp only [LR] <;> omega) | fail) only [push_cast, simprocAttr, -Nat.reduceSubDiff]) <;> (repeat (refine (aw_draw (by kernel_rfl)).2 ?_; simp -dsimp (disch := first | omega | (simp only [LR] <;> omega) | fail) only [push_cast, simprocAttr, -Nat.reduceSubDiff]))
  refine loop_ind (α := Nat) (fun i => i ≤ P.length)
    (fun i => ⟨[(1, .sc (.int .i64 w)), (4, .pt 1 0 0), (6, .pt 3 0 0), (22, .ow 5 0 P.length), (23, .sc (.int .i64 P.length)), (24, .sc (.int .i64 i))],
      [(1, .bx [.sc (.int .i64 0), .ow 2 0 0]), (2, .ar 1 0 []), (3, .bx [.sc (.int .i64 t.size), .ow 4 0 ((P.take i).map fun p => sumS p w).length]), (4, .ar 1 0 (((P.take i).map fun p => sumS p w).map strR)), (5, .ar 1 0 (P.map strR))], 6⟩) (fun i => P.length - i) 0 (Nat.zero_le _) ?_ ?_
  · simp -dsimp (disch := first | omega | (simp only [List.take_zero, List.map_nil, LR] <;> omega) | fail) only [push_cast, List.take_zero, List.map_nil, simprocAttr, -Nat.reduceSubDiff]
  intro i hi ih
  have hil : ((P.take i).map fun p => sumS p w).length = i := by rw [List.length_map, List.length_take]; omega
  by_cases h : i < P.length
  · obtain ⟨x, hx⟩ := ex_get h
    have hxs := hps x (List.mem_of_getElem? hx)
    have hst : ((P.take (i + 1)).map fun p => sumS p w) = ((P.take i).map fun p => sumS p w) ++ [sumS x w] := by rw [take_step hx, List.map_append]; rfl
    (simp -dsimp (disch := first | omega | (simp only [hx, LR] <;> omega) | fail) only [push_cast, hx, simprocAttr, -Nat.reduceSubDiff]) <;> (repeat (refine (aw_draw (by kernel_rfl)).2 ?_; simp -dsimp (disch := first | omega | (simp only [hx, LR] <;> omega) | fail) only [push_cast, hx, simprocAttr, -Nat.reduceSubDiff]))
    refine callC (implSum x w (by omega)) ?_
    (simp -dsimp (disch := first | omega | (simp only [hx, LR] <;> omega) | fail) only [push_cast, hx, simprocAttr, -Nat.reduceSubDiff]) <;> (repeat (refine (aw_draw (by kernel_rfl)).2 ?_; simp -dsimp (disch := first | omega | (simp only [hx, LR] <;> omega) | fail) only [push_cast, hx, simprocAttr, -Nat.reduceSubDiff]))
    refine ih (i + 1) _ (by omega) h ?_
    rw [hst]
    simp -dsimp (disch := first | omega | (simp only [wr_id, List.map_append, List.length_append, List.length_cons, List.length_nil, List.map_cons, List.map_nil, LR] <;> omega) | fail) only [push_cast, wr_id, List.map_append, List.length_append, List.length_cons, List.length_nil, List.map_cons, List.map_nil, simprocAttr, -Nat.reduceSubDiff]
  · have hi : i = P.length := by omega
    subst hi
    rw [List.take_length] at hil ⊢
    (simp -dsimp (disch := first | omega | (simp only [List.length_map, LR] <;> omega) | fail) only [push_cast, List.length_map, simprocAttr, -Nat.reduceSubDiff]) <;> (repeat (refine (aw_draw (by kernel_rfl)).2 ?_; simp -dsimp (disch := first | omega | (simp only [List.length_map, LR] <;> omega) | fail) only [push_cast, List.length_map, simprocAttr, -Nat.reduceSubDiff]))
def E75 : Env := { T := T0, kp := look [(0, [0, 1]), (1, [0, 1, 4]), (2, [4]), (3, [0, 1, 4]), (4, [0, 1, 4, 5]), (5, [1, 4, 5, 6]), (6, [1, 4, 5, 6, 7]), (7, [1, 4, 5, 6, 7]), (8, [1, 4, 5, 6, 7]), (9, [4, 5])], dp := look2 [(8, [[], [0], [], [], [2, 3], [2, 3, 4], [], [2, 3, 4, 5, 6], [2, 3, 4, 5, 6, 7], [0, 1, 2, 3, 4, 5, 6, 7, 8], [0, 1, 2, 3, 4, 5, 6, 7, 8, 9], [0, 1, 2, 3, 4, 5, 6, 7, 8, 9, 10]])] }
attribute [local push_cast] E75
set_option maxRecDepth 20000 in
set_option maxHeartbeats 1000000 in
theorem specDescribe (t : Str) (w : Int) (ht : t.size ≤ 100000000) : Does Tryz.prog 75 [.sc (.string t), .sc (.int .i64 w)] (.ag (lstC true (descL t w).1), []) := by
  refine does_of (E := E75) (rs := [.cell 4 96]) (lent := []) tOk rfl Tryz.func75 rfl (by decide) rfl rfl (Nat.le_of_ble_eq_true rfl) (Nat.le_of_ble_eq_true rfl) ?_
  obtain ⟨M, hM⟩ : ∃ M, M = descL t w := ⟨_, rfl⟩
  rw [← hM]
  unfold descL at hM
  (simp -dsimp (disch := first | omega | (simp only [LR] <;> omega) | fail) only [push_cast, simprocAttr, -Nat.reduceSubDiff]) <;> (repeat (refine (aw_draw (by kernel_rfl)).2 ?_; simp -dsimp (disch := first | omega | (simp only [LR] <;> omega) | fail) only [push_cast, simprocAttr, -Nat.reduceSubDiff]))
  refine callC (l1Width w) ?_
  cases hw : inB w 1 8 with
  | false =>
    rw [if_pos (.inr hw)] at hM
    subst hM
    (simp -dsimp (disch := first | omega | (simp only [emL, LR] <;> omega) | fail) only [push_cast, emL, simprocAttr, -Nat.reduceSubDiff]) <;> (repeat (refine (aw_draw (by kernel_rfl)).2 ?_; simp -dsimp (disch := first | omega | (simp only [emL, LR] <;> omega) | fail) only [push_cast, emL, simprocAttr, -Nat.reduceSubDiff]))
  | true =>
  by_cases hbig : 3000 < t.size
  · rw [if_pos (.inl hbig)] at hM
    subst hM
    (simp -dsimp (disch := first | omega | (simp only [hbig, emL, LR] <;> omega) | fail) only [push_cast, hbig, emL, simprocAttr, -Nat.reduceSubDiff]) <;> (repeat (refine (aw_draw (by kernel_rfl)).2 ?_; simp -dsimp (disch := first | omega | (simp only [hbig, emL, LR] <;> omega) | fail) only [push_cast, hbig, emL, simprocAttr, -Nat.reduceSubDiff]))
  rw [if_neg (by rintro (q | q); exact hbig q; rw [hw] at q; cases q)] at hM
  subst hM
  (simp -dsimp (disch := first | omega | (simp only [hbig, LR] <;> omega) | fail) only [push_cast, hbig, simprocAttr, -Nat.reduceSubDiff]) <;> (repeat (refine (aw_draw (by kernel_rfl)).2 ?_; simp -dsimp (disch := first | omega | (simp only [hbig, LR] <;> omega) | fail) only [push_cast, hbig, simprocAttr, -Nat.reduceSubDiff]))
  refine callC (specPieces t ht) ?_
  have hpl := pieces_len t
  have hps := fun p (hp : p ∈ piecesL t) => pieces_sz hp
  generalize piecesL t = P at *
  (simp -dsimp (disch := first | omega | (simp only [LR] <;> omega) | fail) only [push_cast, simprocAttr, -Nat.reduceSubDiff]) <;> (repeat (refine (aw_draw (by kernel_rfl)).2 ?_; simp -dsimp (disch := first | omega | (simp only [LR] <;> omega) | fail) only [push_cast, simprocAttr, -Nat.reduceSubDiff]))
  refine loop_ind (α := Nat) (fun i => i ≤ P.length)
    (fun i => ⟨[(1, .sc (.int .i64 w)), (4, .pt 1 0 0), (5, .pt 3 0 0), (6, .ow 5 0 P.length), (7, .sc (.int .i64 i))],
      [(1, .bx [.sc (.int .i64 0), .ow 2 0 0]), (2, .ar 1 0 []), (3, .bx [.sc (.int .i64 t.size), .ow 4 0 ((P.take i).map fun p => sumS p w).length]), (4, .ar 1 0 (((P.take i).map fun p => sumS p w).map strR)), (5, .ar 1 0 (P.map strR))], 6⟩) (fun i => P.length - i) 0 (Nat.zero_le _) ?_ ?_
  · simp -dsimp (disch := first | omega | (simp only [List.take_zero, List.map_nil, LR] <;> omega) | fail) only [push_cast, List.take_zero, List.map_nil, simprocAttr, -Nat.reduceSubDiff]
  intro i hi ih
  have hil : ((P.take i).map fun p => sumS p w).length = i := by rw [List.length_map, List.length_take]; omega
  by_cases h : i < P.length
  · obtain ⟨x, hx⟩ := ex_get h
    have hxs := hps x (List.mem_of_getElem? hx)
    have hst : ((P.take (i + 1)).map fun p => sumS p w) = ((P.take i).map fun p => sumS p w) ++ [sumS x w] := by rw [take_step hx, List.map_append]; rfl
    (simp -dsimp (disch := first | omega | (simp only [hx, LR] <;> omega) | fail) only [push_cast, hx, simprocAttr, -Nat.reduceSubDiff]) <;> (repeat (refine (aw_draw (by kernel_rfl)).2 ?_; simp -dsimp (disch := first | omega | (simp only [hx, LR] <;> omega) | fail) only [push_cast, hx, simprocAttr, -Nat.reduceSubDiff]))
    refine callC (specSum x w (by omega)) ?_
    (simp -dsimp (disch := first | omega | (simp only [hx, LR] <;> omega) | fail) only [push_cast, hx, simprocAttr, -Nat.reduceSubDiff]) <;> (repeat (refine (aw_draw (by kernel_rfl)).2 ?_; simp -dsimp (disch := first | omega | (simp only [hx, LR] <;> omega) | fail) only [push_cast, hx, simprocAttr, -Nat.reduceSubDiff]))
    refine ih (i + 1) _ (by omega) h ?_
    rw [hst]
    simp -dsimp (disch := first | omega | (simp only [wr_id, List.map_append, List.length_append, List.length_cons, List.length_nil, List.map_cons, List.map_nil, LR] <;> omega) | fail) only [push_cast, wr_id, List.map_append, List.length_append, List.length_cons, List.length_nil, List.map_cons, List.map_nil, simprocAttr, -Nat.reduceSubDiff]
  · have hi : i = P.length := by omega
    subst hi
    rw [List.take_length] at hil ⊢
    (simp -dsimp (disch := first | omega | (simp only [List.length_map, LR] <;> omega) | fail) only [push_cast, List.length_map, simprocAttr, -Nat.reduceSubDiff]) <;> (repeat (refine (aw_draw (by kernel_rfl)).2 ?_; simp -dsimp (disch := first | omega | (simp only [List.length_map, LR] <;> omega) | fail) only [push_cast, List.length_map, simprocAttr, -Nat.reduceSubDiff]))
theorem desc_len {t : Str} {w : Int} : (descL t w).1.S.length ≤ 3001 := by
  unfold descL
  split
  · simp [emL]
  · simp only [List.length_map]; exact pieces_len t
theorem formL_len {l : Lst} {w : Int} : (formL l w).size ≤ 7000 := by
  unfold formL
  split
  · rename_i h
    obtain ⟨_, w8, s0, s3, hn, hsz⟩ := okLs_up h
    have h1 := lines_len hsz w8
    have h2 := decD_len l.sz.toNat
    rw [stB_size]
    unfold formB
    have h3 : sizB.length = 5 := rfl
    rw [List.length_append, List.length_append, List.length_append]
    simp only [List.length_cons, List.length_nil]
    have h4 : (Lib.decDigits l.sz.toNat).length ≤ 619 := by
      have : (Lib.decDigits l.sz.toNat).length = Lib.nDigits l.sz.toNat := Lib.decDigits_length _
      have h5 : Lib.nDigits l.sz.toNat ≤ 5 := by
        apply Classical.byContradiction
        intro hc
        have hq : ∀ k u : Nat, u < 10 ^ (k + 1) → Lib.nDigits u ≤ k + 1 := by
          intro k
          induction k with
          | zero => intro u hu; rw [Lib.nDigits_small (by simpa using hu)]; exact Nat.le_refl _
          | succ k ih =>
            intro u hu
            by_cases h : u < 10
            · rw [Lib.nDigits_small h]; omega
            · rw [Lib.nDigits_big h]
              have := ih (u / 10) (by rw [Nat.pow_succ] at hu; omega)
              omega
        have := hq 4 l.sz.toNat (by omega)
        omega
      omega
    omega
  · exact Nat.zero_le _
def E70 : Env := { T := T0, kp := look [(0, [0, 1]), (1, [0, 1]), (2, [1, 5, 6]), (3, []), (4, [1, 5])] }
attribute [local push_cast] E70
set_option maxHeartbeats 1000000 in
theorem implName (t : Str) (w : Int) (ht : t.size ≤ 100000000) : Does Tryz.prog 70 [.sc (.string t), .sc (.int .i64 w)] (.sc (.string (nameS t w)), []) := by
  refine does_of (E := E70) (rs := [.tmp 4]) (lent := []) tOk rfl Tryz.func70 rfl (by decide) rfl rfl (Nat.le_of_ble_eq_true rfl) (Nat.le_of_ble_eq_true rfl) ?_
  obtain ⟨M, hM⟩ : ∃ M, M = nameS t w := ⟨_, rfl⟩
  rw [← hM]
  unfold nameS at hM
  have hl := desc_len (t := t) (w := w)
  (simp -dsimp (disch := first | omega | (simp only [LR] <;> omega) | fail) only [push_cast, simprocAttr, -Nat.reduceSubDiff]) <;> (repeat (refine (aw_draw (by kernel_rfl)).2 ?_; simp -dsimp (disch := first | omega | (simp only [LR] <;> omega) | fail) only [push_cast, simprocAttr, -Nat.reduceSubDiff]))
  refine callC (implDescribe0 t w ht) ?_
  generalize descL t w = D at *
  obtain ⟨l, b⟩ := D
  simp only at hM hl
  cases b with
  | false =>
    have hM : M = ⟨#[]⟩ := hM
    (simp -dsimp (disch := first | omega | (simp only [hM, LR] <;> omega) | fail) only [push_cast, hM, simprocAttr, -Nat.reduceSubDiff]) <;> (repeat (refine (aw_draw (by kernel_rfl)).2 ?_; simp -dsimp (disch := first | omega | (simp only [hM, LR] <;> omega) | fail) only [push_cast, hM, simprocAttr, -Nat.reduceSubDiff]))
  | true =>
    have hM : M = sumS (formL l w) w := hM
    have hf := formL_len (l := l) (w := w)
    (simp -dsimp (disch := first | omega | (simp only [LR] <;> omega) | fail) only [push_cast, simprocAttr, -Nat.reduceSubDiff]) <;> (repeat (refine (aw_draw (by kernel_rfl)).2 ?_; simp -dsimp (disch := first | omega | (simp only [LR] <;> omega) | fail) only [push_cast, simprocAttr, -Nat.reduceSubDiff]))
    refine callC (implFormList l w (by omega)) ?_
    (simp -dsimp (disch := first | omega | (simp only [LR] <;> omega) | fail) only [push_cast, simprocAttr, -Nat.reduceSubDiff]) <;> (repeat (refine (aw_draw (by kernel_rfl)).2 ?_; simp -dsimp (disch := first | omega | (simp only [LR] <;> omega) | fail) only [push_cast, simprocAttr, -Nat.reduceSubDiff]))
    refine callC (implSum (formL l w) w (by omega)) ?_
    (simp -dsimp (disch := first | omega | (simp only [hM, LR] <;> omega) | fail) only [push_cast, hM, simprocAttr, -Nat.reduceSubDiff]) <;> (repeat (refine (aw_draw (by kernel_rfl)).2 ?_; simp -dsimp (disch := first | omega | (simp only [hM, LR] <;> omega) | fail) only [push_cast, hM, simprocAttr, -Nat.reduceSubDiff]))
def E20 : Env := { T := T0, kp := look [(0, [0, 1]), (1, [0, 1]), (2, []), (3, [0, 1])] }
attribute [local push_cast] E20
set_option maxHeartbeats 1000000 in
theorem specName (t : Str) (w : Int) (ht : t.size ≤ 100000000) : Does Tryz.prog 20 [.sc (.string t), .sc (.int .i64 w)] (.sc (.string (nameS t w)), []) := by
  refine does_of (E := E20) (rs := [.tmp 4]) (lent := []) tOk rfl Tryz.func20 rfl (by decide) rfl rfl (Nat.le_of_ble_eq_true rfl) (Nat.le_of_ble_eq_true rfl) ?_
  obtain ⟨M, hM⟩ : ∃ M, M = nameS t w := ⟨_, rfl⟩
  rw [← hM]
  unfold nameS at hM
  by_cases hbig : 3000 < t.size
  · have hd : descL t w = (emL, false) := by unfold descL; rw [if_pos (.inl hbig)]
    have hM : M = ⟨#[]⟩ := by rw [hM, hd]; rfl
    (simp -dsimp (disch := first | omega | (simp only [hbig, hM, LR] <;> omega) | fail) only [push_cast, hbig, hM, simprocAttr, -Nat.reduceSubDiff]) <;> (repeat (refine (aw_draw (by kernel_rfl)).2 ?_; simp -dsimp (disch := first | omega | (simp only [hbig, hM, LR] <;> omega) | fail) only [push_cast, hbig, hM, simprocAttr, -Nat.reduceSubDiff]))
  have hl := desc_len (t := t) (w := w)
  have hM : M = sumS (formL (descL t w).1 w) w := by
    cases hw : inB w 1 8 with
    | true =>
      have hd : (descL t w).2 = true := by unfold descL; rw [if_neg (by rintro (q | q); exact hbig q; rw [hw] at q; cases q)]
      rw [hM, hd]; rfl
    | false =>
      have hd : (descL t w).2 = false := by unfold descL; rw [if_pos (.inr hw)]
      have : ¬ (1 ≤ w ∧ w ≤ 8) := of_decide_eq_false hw
      rw [hM, hd]
      show em = sumS _ w
      unfold sumS
      rw [if_neg this]
  have hf := formL_len (l := (descL t w).1) (w := w)
  (simp -dsimp (disch := first | omega | (simp only [hbig, LR] <;> omega) | fail) only [push_cast, hbig, simprocAttr, -Nat.reduceSubDiff]) <;> (repeat (refine (aw_draw (by kernel_rfl)).2 ?_; simp -dsimp (disch := first | omega | (simp only [hbig, LR] <;> omega) | fail) only [push_cast, hbig, simprocAttr, -Nat.reduceSubDiff]))
  refine callC (specDescribe t w ht) ?_
  (simp -dsimp (disch := first | omega | (simp only [LR] <;> omega) | fail) only [push_cast, simprocAttr, -Nat.reduceSubDiff]) <;> (repeat (refine (aw_draw (by kernel_rfl)).2 ?_; simp -dsimp (disch := first | omega | (simp only [LR] <;> omega) | fail) only [push_cast, simprocAttr, -Nat.reduceSubDiff]))
  refine callC (specFormList (descL t w).1 w (by omega)) ?_
  (simp -dsimp (disch := first | omega | (simp only [LR] <;> omega) | fail) only [push_cast, simprocAttr, -Nat.reduceSubDiff]) <;> (repeat (refine (aw_draw (by kernel_rfl)).2 ?_; simp -dsimp (disch := first | omega | (simp only [LR] <;> omega) | fail) only [push_cast, simprocAttr, -Nat.reduceSubDiff]))
  refine callC (specSum (formL (descL t w).1 w) w (by omega)) ?_
  (simp -dsimp (disch := first | omega | (simp only [hM, LR] <;> omega) | fail) only [push_cast, hM, simprocAttr, -Nat.reduceSubDiff]) <;> (repeat (refine (aw_draw (by kernel_rfl)).2 ?_; simp -dsimp (disch := first | omega | (simp only [hM, LR] <;> omega) | fail) only [push_cast, hM, simprocAttr, -Nat.reduceSubDiff]))
end Go.Proofs.YtkkmgjhfjhcdmaaGreatDoor.Mx

/- Draws, pure. -/
namespace Go.Proofs.YtkkmgjhfjhcdmaaGreatDoor.Mx
set_option linter.all false
open Go Go.RowKit
/-- the bytes of a code -/
def okCode (c : List Int) : Prop := c.length ≤ 2000 ∧ ∀ x ∈ c, 0 ≤ x ∧ x ≤ 255
def mixK (c : List Int) (k : Int) : Int := c.getD (k.toNat % c.length) 0 * 131 + c.getD ((k.toNat * 7 + 3) % c.length) 0 * 1117 + k * 29 + k / c.length * 53
def xorK (x : Int) : Int := wr .i64 (BitVec.ofInt 64 x ^^^ BitVec.ofInt 64 (x / 64)).toNat
/-- the p-th draw of a number below n -/
def pickF (c : List Int) (p n : Int) : Int := if n < 1 ∨ c = [] then 0 else if p < c.length then (c.getD p.toNat 0) % n else xorK (mixK c p) % n
theorem code_get {c : List Int} (h : okCode c) (i : Nat) : 0 ≤ c.getD i 0 ∧ c.getD i 0 ≤ 255 := by
  rw [List.getD_eq_getElem?_getD]
  cases e : c[i]? with
  | none => simp
  | some x => exact h.2 x (List.mem_of_getElem? e)
theorem xorK_nn {x : Int} (h0 : 0 ≤ x) (h1 : x < 4611686018427387904) : 0 ≤ xorK x ∧ xorK x < 4611686018427387904 := by
  unfold xorK
  obtain ⟨n, rfl⟩ := Int.eq_ofNat_of_zero_le h0
  have e : (BitVec.ofInt 64 (n : Int) ^^^ BitVec.ofInt 64 ((n : Int) / 64)).toNat = n ^^^ (n / 64) := by
    rw [BitVec.toNat_xor]
    have h2 : ((n : Int) / 64) = ((n / 64 : Nat) : Int) := by simp
    rw [h2, BitVec.ofInt_natCast, BitVec.ofInt_natCast, BitVec.toNat_ofNat, BitVec.toNat_ofNat, Nat.mod_eq_of_lt (by omega), Nat.mod_eq_of_lt (by omega)]
  rw [e]
  have hl : n ^^^ (n / 64) < 2 ^ 62 := Nat.xor_lt_two_pow (by omega) (by omega)
  have : wr .i64 ((n ^^^ (n / 64) : Nat) : Int) = ((n ^^^ (n / 64) : Nat) : Int) := by
    rw [wr_id (by omega) (by omega)]
  omega
theorem pickF_nn {c : List Int} (h : okCode c) (p n : Int) (hp0 : 0 ≤ p) (hp : p ≤ 1000000) : 0 ≤ pickF c p n ∧ (1 ≤ n → pickF c p n < n) := by
  unfold pickF
  split
  · exact ⟨by omega, by omega⟩
  rename_i h1
  have hn : 1 ≤ n := by omega
  have : ∀ x : Int, 0 ≤ x % n ∧ x % n < n := fun x => ⟨Int.emod_nonneg _ (by omega), Int.emod_lt_of_pos _ (by omega)⟩
  split
  · exact ⟨(this _).1, fun _ => (this _).2⟩
  · exact ⟨(this _).1, fun _ => (this _).2⟩
end Go.Proofs.YtkkmgjhfjhcdmaaGreatDoor.Mx
